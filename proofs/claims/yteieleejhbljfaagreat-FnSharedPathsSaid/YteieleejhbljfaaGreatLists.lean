/- Lists of lists of numbers: the paths of an expression. -/
import Derived.Test.YteieleejhbljfaaGreatPathe
namespace Go.Proofs.YteieleejhbljfaaGreat
open Go Go.Ax Go.Proofs
set_option linter.unusedVariables false
set_option linter.unusedSimpArgs false
set_option maxRecDepth 20000
def rowsO (L : List (List Int)) : List AV := L.map fun p => .own 1 (ints p) []
def rowsR (L : List (List Int)) : List AV := L.map fun p => .ro 1 (ints p) [] false
theorem rowsO_length (L : List (List Int)) : (rowsO L).length = L.length := by simp [rowsO]
theorem rowsR_length (L : List (List Int)) : (rowsR L).length = L.length := by simp [rowsR]
theorem rowsR_at {L : List (List Int)} {i : Nat} {p : List Int} (h : L[i]? = some p) : (rowsR L)[i]? = some (.ro 1 (ints p) [] false) := by simp [rowsR, h]
theorem rowsO_at {L : List (List Int)} {i : Nat} {p : List Int} (h : L[i]? = some p) : (rowsO L)[i]? = some (.own 1 (ints p) []) := by simp [rowsO, h]
theorem rowsO_append (L M : List (List Int)) : rowsO L ++ rowsO M = rowsO (L ++ M) := by simp [rowsO]
theorem plain_rowsR : ∀ L : List (List Int), plainL (rowsR L) = true
  | [] => rfl
  | p :: L => by simp only [rowsR, List.map_cons, plainL, plainV, Bool.true_and]; exact plain_rowsR L
theorem viewL_rows : ∀ L : List (List Int), ViewL (rowsO L) (rowsR L)
  | [] => trivial
  | p :: L => ⟨View.own (viewL_ints p) trivial, viewL_rows L⟩
def ownR (L : List (List Int)) : AV → Hp → Prop := fun r hp' => ∃ B : Option Nat, r = .loc B 0 L.length L.length 1 ∧ hp' = [(B, ⟨1, rowsO L⟩)]
theorem bor_rows {hp : Hp} {B : Option Nat} {j : Nat} {L : List (List Int)} (hj : hp[j]? = some (B, ⟨1, rowsO L⟩)) {len k : Nat} (hl : len = L.length) : Bor hp (.loc B 0 len k 1) (.ro 1 (rowsR L) [] false) := by
  subst hl
  exact Bor.loc hj (by simp [rowsO]) (by rw [List.take_of_length_le (by simp [rowsO])]; exact viewL_rows L)
theorem ownR.fz {L : List (List Int)} {r : AV} {hp' : Hp} (h : ownR L r hp') : Fz hp' r (.ro 1 (rowsR L) [] false) := by
  obtain ⟨B, rfl, rfl⟩ := h
  exact (bor_rows (j := 0) rfl rfl).fz
theorem free_ownI (p : List Int) : Free (.own 1 (ints p) []) := fun w ok ok' cs F hr => by
  simp only [Rep] at hr ⊢
  rcases hr with q | ⟨b, cap, c1, c2, F1, F2, q1, q2, q3, q4, q5, q6⟩
  · exact .inl q
  · exact .inr ⟨b, cap, c1, c2, F1, F2, q1, q2, freeL_rep (freeL_ints p) q3, by simpa only [RepL] using q4, q5, q6⟩
theorem freeL_rows : ∀ L : List (List Int), FreeL (rowsO L)
  | [] => trivial
  | p :: L => ⟨free_ownI p, freeL_rows L⟩
theorem ownR.free {L : List (List Int)} {r : AV} {hp' : Hp} (h : ownR L r hp') : Free r ∧ ∀ B row, (B, row) ∈ hp' → FreeL row.xs := by
  obtain ⟨B, rfl, rfl⟩ := h
  refine ⟨fun w ok ok' cs F hr => ?_, fun B' row hm => ?_⟩
  · cases B <;> simpa only [Rep] using hr
  · simp at hm; obtain ⟨rfl, rfl⟩ := hm; exact freeL_rows L
mutual
def pathsT : Tr → List (List Int)
  | .mk _ _ _ ks => [] :: pathsK ks 0
def pathsK : List Tr → Nat → List (List Int)
  | [], _ => []
  | k :: ks, i => (pathsT k).map ((i : Int) :: ·) ++ pathsK ks (i + 1)
end
mutual
theorem pathsT_length : ∀ k : Tr, ((pathsT k).length : Int) = sizeT k
  | .mk k n t ks => by
    rw [pathsT, sizeT, List.length_cons]
    have := pathsK_length ks 0
    omega
theorem pathsK_length : ∀ (ks : List Tr) (i : Nat), ((pathsK ks i).length : Int) = sizeTs ks
  | [], i => by rw [pathsK, sizeTs]; rfl
  | k :: ks, i => by
    rw [pathsK, sizeTs, List.length_append, List.length_map]
    have h1 := pathsT_length k
    have h2 := pathsK_length ks (i + 1)
    omega
end
mutual
theorem pathsT_short : ∀ (k : Tr), ∀ p ∈ pathsT k, (p.length : Int) < sizeT k
  | .mk k n t ks => by
    intro p hp
    rw [pathsT] at hp
    rw [sizeT]
    have h0 := sizeTs_pos ks
    rcases List.mem_cons.1 hp with rfl | hp
    · simp; omega
    · have := pathsK_short ks 0 p hp; omega
theorem pathsK_short : ∀ (ks : List Tr) (i : Nat), ∀ p ∈ pathsK ks i, (p.length : Int) ≤ sizeTs ks
  | [], i => by intro p hp; simp [pathsK] at hp
  | k :: ks, i => by
    intro p hp
    rw [pathsK] at hp
    rw [sizeTs]
    have h0 := sizeTs_pos ks
    have h1 := sizeT_pos k
    rcases List.mem_append.1 hp with hp | hp
    · obtain ⟨q, hq, rfl⟩ := List.mem_map.1 hp
      have := pathsT_short k q hq
      simp; omega
    · have := pathsK_short ks (i + 1) p hp; omega
end
def behind (p : List Int) (L : List (List Int)) : List (List Int) := L.map (p ++ ·)
theorem behind_cons (p : List Int) (i : Nat) (L : List (List Int)) : behind p (L.map ((i : Int) :: ·)) = behind (p ++ [(i : Int)]) L := by simp [behind]
theorem sbelow_AH (k : Tr) : ∀ p : List Int, k.bnd 1000000 → (p.length : Int) + sizeT k ≤ 2000000 → FnH 47 [] [k.av, .ro 1 (ints p) [] false] (ownR (behind p (pathsT k))) := by
  induction k using Tr.ind
  rename_i kd nm t ks ih
  intro p hk hz
  simp only [Tr.bnd] at hk
  obtain ⟨hk1, hk2, hk3⟩ := hk
  have hlen := Tr.avs_length ks
  have hlp := ints_length p
  have hz0 := hz
  have hs0 := sizeTs_pos ks
  rw [sizeT] at hz0
  refine AH.intro Tryz.func47 nm47 rfl rfl rfl fun w0 ok0 own0 => ?_
  refine AWP.seq ?_
  refine AWP.region ?_
  refine AOps.box rfl rfl rfl rfl fun b1 => ?_
  refine Y (ass rfl) rfl ?_
  refine AOps.nil ?_
  refine AWP.seq ?_
  refine AWP.region ?_
  refine AOps.buildSlice sl32 z3 rfl rfl rfl rfl rfl fun be => ?_
  refine Y (mv rfl) rfl ?_
  refine AOps.appendE (j := 0) sl32 z3 rfl rfl rfl rfl rfl rfl rfl (src_ro rfl) (show 0 + (ints p).length = p.length by rw [ints_length]; omega) (show [] ++ ints p = ints p from rfl) (by omega) (by omega) fun Be => ?_
  refine AOps.buildSlice sl35 z32 rfl rfl rfl rfl rfl fun bo => ?_
  refine AOps.leads (Leads.pull 1 rfl) ?_
  refine AOps.leads (Leads.seal 0 0 rfl rfl (SealTo.locV hlp.symm (by omega))) ?_
  refine Y (ass rfl) rfl ?_
  refine AOps.nil ?_
  refine AWP.seq ?_
  refine AWP.seq ?_
  refine AWP.region ?_
  refine Y (ass rfl) rfl ?_
  refine AOps.nil ?_
  refine AWP.block ?_
  refine AWP.loopV (α := Option Nat × List (List Int) × Nat) (fun pp : Option Nat × List (List Int) × Nat => match pp with | (B, L, i) => ⟨[(1, .ro 1 (ints p) [] false), (2, .ptr (some b1) 0 0 4), (5, .loc B 0 L.length L.length 1), (6, int i)], [(B, ⟨1, rowsO L⟩), (some b1, ⟨4, [Tr.av (.mk kd nm t ks)]⟩)]⟩) (fun pp : Option Nat × List (List Int) × Nat => match pp with | (B, L, i) => i ≤ ks.length ∧ (L.length : Int) + sizeTs (ks.drop i) = sizeT (.mk kd nm t ks) ∧ sizeTs (ks.drop i) ≤ sizeTs ks ∧ L ++ behind p (pathsK (ks.drop i) i) = behind p (pathsT (.mk kd nm t ks))) (fun pp : Option Nat × List (List Int) × Nat => match pp with | (B, L, i) => ks.length - i) ((some bo, [p], 0)) ?_ ?_ ?_
  · exact Leads.keepR (KeepR.cons 0 rfl (KeepR.cons 0 rfl KeepR.nil)) ⟨rfl, rfl, rfl, rfl, trivial⟩
  ·
   show 0 ≤ ks.length ∧ (([p]).length : Int) + sizeTs (ks.drop 0) = sizeT (.mk kd nm t ks) ∧ sizeTs (ks.drop 0) ≤ sizeTs ks ∧ ([p]) ++ behind p (pathsK (ks.drop 0) 0) = behind p (pathsT (.mk kd nm t ks))
   exact ⟨Nat.zero_le _, by rw [List.drop_zero, sizeT]; rfl, by rw [List.drop_zero]; omega, by rw [List.drop_zero, pathsT]; simp [behind]⟩
  ·
   rintro ⟨B, L, i⟩ hinv
   replace hinv : i ≤ ks.length ∧ (L.length : Int) + sizeTs (ks.drop i) = sizeT (.mk kd nm t ks) ∧ sizeTs (ks.drop i) ≤ sizeTs ks ∧ L ++ behind p (pathsK (ks.drop i) i) = behind p (pathsT (.mk kd nm t ks)) := hinv
   show AWP _ _ _ _ ⟨[(1, .ro 1 (ints p) [] false), (2, .ptr (some b1) 0 0 4), (5, .loc B 0 L.length L.length 1), (6, int i)], [(B, ⟨1, rowsO L⟩), (some b1, ⟨4, [Tr.av (.mk kd nm t ks)]⟩)]⟩
   refine AWP.seq ?_
   refine AWP.seq ?_
   refine AWP.region ?_
   obtain ⟨hi, hm, hm2, hp⟩ := hinv
   refine Y (mv rfl) rfl ?_
   refine Y (Yields.fieldAddr_ptr fo25_3 rfl) rfl ?_
   refine Y (Yields.load_ptr_field (j := 1) kd23 rfl rfl rfl rfl rfl rfl rfl) rfl ?_
   refine Y (Yields.len_ro sl23 rfl) rfl ?_
   refine Y (bn rfl rfl BinR.lss rfl) rfl ?_
   refine AOps.nil ?_
   refine AWP.condT rfl (fun g => ?_) (fun g => ?_)
   ·
    replace g := of_decide_eq_true g
    obtain ⟨c, hc, hd⟩ := drop_at (l := ks) (i := i) (by omega)
    rw [hd, pathsK] at hp
    rw [hd, sizeTs] at hm hm2
    have hc1 := sizeT_pos c
    have hc2 := sizeTs_pos (ks.drop (i + 1))
    have hcl := pathsT_length c
    obtain ⟨ckd, cnm, ct, cks⟩ := c
    refine AWP.skip ?_
    refine AWP.seq ?_
    refine AWP.block ?_
    refine AWP.prune (tm' := [(1, _), (2, _), (5, _), (6, _), (15, _)]) ⟨rfl, rfl, rfl, rfl, rfl, trivial⟩ ?_
    refine AWP.drawnM [(6, 8), (8, 11), (10, 11)] [.pure 0, .pure 1, .pure 2, .pure 3, .pure 4, .pure 5, .pure 6, .pure 7, .pure 8, .pure 9, .pure 10, .pure 11, .spine 12 [11] [1, 2, 3, 4, 5, 6, 7, 8, 9, 10, 11], .spine 13 [] [0, 1, 2, 3, 4, 5, 6, 7, 8, 9, 10, 11, 12], .pure 14] mixed rfl rfl rfl rfl rfl ?_
    refine DM.pure (GX (tm' := [(5, _)]) rfl ⟨rfl, trivial⟩ rfl (DStep.yields (mv rfl)) rfl) ?_
    refine DM.pure (GX (tm' := [(2, _)]) rfl ⟨rfl, trivial⟩ rfl (DStep.yields (Yields.fieldAddr_ptr fo25_3 rfl)) rfl) ?_
    refine DM.pure (GX (tm' := [(19, _)]) rfl ⟨rfl, trivial⟩ rfl (DStep.yields (Yields.load_ptr_field (j := 1) kd23 rfl rfl rfl rfl rfl rfl rfl)) rfl) ?_
    refine DM.pure (GX (tm' := [(6, _)]) rfl ⟨rfl, trivial⟩ rfl (DStep.yields (mv rfl)) rfl) ?_
    refine DM.pure (GX (tm' := [(20, _), (21, _)]) rfl ⟨rfl, rfl, trivial⟩ rfl (DStep.yields (Yields.idx_roN sl23 rfl rfl rfl rfl (by omega))) rfl) ?_
    refine DM.pure (GX (tm' := [(22, _)]) rfl ⟨rfl, trivial⟩ rfl (DStep.yields (Yields.load_rop_aggV kd25 rfl (Tr.avs_at hc) rfl)) rfl) ?_
    refine DM.pure (GXs (tm' := []) rfl trivial rfl rfl (DStepU.buildSlice sl32 z3 rfl rfl rfl rfl) rfl) ?_
    refine DM.pure (GX (tm' := [(1, _)]) rfl ⟨rfl, trivial⟩ rfl (DStep.yields (mv rfl)) rfl) ?_
    refine DM.pure (GXs (tm' := [(25, _)]) rfl ⟨rfl, trivial⟩ rfl rfl (DStepU.append sl32 z3 rfl rfl rfl (src_ro rfl) (by simp [ints]; omega) (by simp [ints]; omega)) rfl) ?_
    refine DM.pure (GX (tm' := [(6, _)]) rfl ⟨rfl, trivial⟩ rfl (DStep.yields (mv rfl)) rfl) ?_
    refine DM.pure (GXs (tm' := [(27, _)]) rfl ⟨rfl, trivial⟩ rfl rfl (DStepU.buildSlice sl32 z3 rfl rfl rfl rfl) rfl) ?_
    refine DM.pure (GXs (tm' := []) rfl trivial rfl rfl (DStepU.keep (View.own (viewL_refl rfl) (viewL_refl rfl)) (DStepU.append sl32 z3 rfl rfl rfl (src_ro rfl) (by simp [ints]; omega) (by simp [ints]; omega))) rfl) ?_
    refine DM.sp rfl rfl ?_
    refine DOpen.own rfl fun Bp => ?_
    refine DOpen.nil fun _ _ _ => ?_
    refine AOps.subT (tm' := [(23, _), (29, _)]) ⟨rfl, rfl, trivial⟩ ?_
    refine AOps.callHb (.inl trivial) (ih _ (List.mem_of_getElem? hc) (p ++ [(i : Int)]) (Tr.bnds_get hk3 hc) (by simp; omega)) rfl rfl rfl ⟨Bor.refl rfl, Bor.loc (j := 0) rfl (by simp [ints]) (by rw [List.append_nil, List.take_of_length_le (by simp)]; simp only [List.nil_append]; rw [ints_app]; exact viewL_ints _), trivial⟩ (fun r hp' h => ownR.free h) ?_
    rintro _ _ ⟨Br, rfl, rfl⟩
    refine AOps.nil ?_
    refine SpK.mk rfl rfl ?_ ?_
    ·
     skip
     refine Stab.skip rfl ?_
     refine Stab.skip rfl ?_
     refine Stab.skip rfl ?_
     refine Stab.skip rfl ?_
     refine Stab.skip rfl ?_
     refine Stab.skip rfl ?_
     refine Stab.skip rfl ?_
     refine Stab.skip rfl ?_
     refine Stab.skip rfl ?_
     refine Stab.skip rfl ?_
     refine Stab.skip rfl ?_
     refine Stab.skip rfl ?_
     refine Stab.keep (GX (tm' := [(5, _)]) rfl ⟨rfl, trivial⟩ rfl (DStep.yields (mv rfl)) rfl) ?_
     exact trivial
    refine DM.sp rfl rfl ?_
    refine DOpen.nil fun _ _ _ => ?_
    refine AOps.subT (tm' := [(18, _), (30, _)]) ⟨rfl, rfl, trivial⟩ ?_
    refine AOps.leads (Leads.pull 0 rfl) ?_
    refine AOps.leads (Leads.pull 2 rfl) ?_
    refine AOps.appendMoveE sl35 z32 rfl rfl rfl (rowsO_length L) rfl (rowsO_length _) (show L.length + (rowsO (behind (p ++ [(i : Int)]) (pathsT (Tr.mk ckd cnm ct cks)))).length = (L ++ behind (p ++ [(i : Int)]) (pathsT (Tr.mk ckd cnm ct cks))).length by simp [rowsO_length]) (rowsO_append _ _) (by simp [behind]; omega) (by simp [behind]; omega) fun Bn => ?_
    refine AOps.nil ?_
    refine SpK.mk rfl rfl (Stab.all rfl) ?_
    refine DM.pure (GX (tm' := [(31, _)]) rfl ⟨rfl, trivial⟩ rfl (DStep.yields (ass rfl)) rfl) ?_
    refine DM.nil ?_
    refine AWP.region ?_
    refine Y (mv rfl) rfl ?_
    refine Y (bn rfl rfl (BinR.addI (by omega) (by omega)) rfl) rfl ?_
    refine Y (ass rfl) rfl ?_
    refine AOps.nil ?_
    refine ⟨(Bn, L ++ behind (p ++ [(i : Int)]) (pathsT (Tr.mk ckd cnm ct cks)), i + 1), ?_, ?_, ?_⟩
    ·
     show ks.length - (i + 1) < ks.length - i
     omega
    ·
     show (i + 1) ≤ ks.length ∧ ((L ++ behind (p ++ [(i : Int)]) (pathsT (Tr.mk ckd cnm ct cks))).length : Int) + sizeTs (ks.drop (i + 1)) = sizeT (.mk kd nm t ks) ∧ sizeTs (ks.drop (i + 1)) ≤ sizeTs ks ∧ (L ++ behind (p ++ [(i : Int)]) (pathsT (Tr.mk ckd cnm ct cks))) ++ behind p (pathsK (ks.drop (i + 1)) (i + 1)) = behind p (pathsT (.mk kd nm t ks))
     exact ⟨by omega, by simp [behind]; omega, by omega, by rw [← hp, ← behind_cons]; simp [behind]⟩
    · exact Leads.keepR (KeepR.cons 0 rfl (KeepR.cons 1 rfl KeepR.nil)) ⟨rfl, rfl, rfl, rfl, trivial⟩
   ·
    replace g := of_decide_eq_false g
    rw [List.drop_eq_nil_of_le (by omega), pathsK] at hp
    have hp : L = behind p (pathsT (.mk kd nm t ks)) := by simpa [behind] using hp
    refine AWP.exit ?_
    refine AWP.seq ?_
    refine AWP.region ?_
    refine Y (mv rfl) rfl ?_
    refine Y (ass rfl) rfl ?_
    refine AOps.nil ?_
    refine AWP.ret ⟨.inl rfl, ?_⟩
    exact RetH.of (rs := [.tmp 4]) (vs := [_]) rfl ⟨rfl, trivial⟩ (KeepR.cons 0 rfl KeepR.nil) (⟨B, by rw [hp]; rfl, by rw [hp]⟩)
theorem get_lastR {A : List (List Int)} {v : AV} : (rowsO A ++ [v])[A.length]? = some v := by
  rw [← rowsO_length A, List.getElem?_append_right (Nat.le_refl _)]; simp
theorem set_lastR {A : List (List Int)} {p : List Int} {v : AV} : (rowsO A ++ [v]).set A.length (.own 1 (ints p) []) = rowsO (A ++ [p]) := by
  rw [← rowsO_length A, List.set_append_right _ _ (Nat.le_refl _)]; simp [rowsO]
theorem ipaths_AH (k : Tr) : k.bnd 1000000 → sizeT k ≤ 2000000 → FnH 44 [] [k.av] (ownR (pathsT k)) := by
  induction k using Tr.ind
  rename_i kd nm t ks ih
  intro hk hz
  simp only [Tr.bnd] at hk
  obtain ⟨hk1, hk2, hk3⟩ := hk
  have hlen := Tr.avs_length ks
  have hz0 := hz
  have hs0 := sizeTs_pos ks
  rw [sizeT] at hz0
  refine AH.intro Tryz.func44 nm44 rfl rfl rfl fun w0 ok0 own0 => ?_
  refine AWP.seq ?_
  refine AWP.region ?_
  refine AOps.box rfl rfl rfl rfl fun b1 => ?_
  refine Y (ass rfl) rfl ?_
  refine AOps.nil ?_
  refine AWP.seq ?_
  refine AWP.region ?_
  refine AOps.buildSlice sl35 z32 rfl rfl rfl rfl rfl fun bo => ?_
  refine AOps.leads (Leads.rowWk 0 0 rfl rfl (Wk.nilOwn (n := 1))) ?_
  refine Y (ass rfl) rfl ?_
  refine AOps.nil ?_
  refine AWP.seq ?_
  refine AWP.seq ?_
  refine AWP.region ?_
  refine Y (Yields.fieldAddr_ptr fo25_3 rfl) rfl ?_
  refine Y (Yields.load_ptr_field (j := 1) kd23 rfl rfl rfl rfl rfl rfl rfl) rfl ?_
  refine Y (Yields.len_ro sl23 rfl) rfl ?_
  refine Y (mv rfl) rfl ?_
  refine AOps.nil ?_
  refine AWP.block ?_
  refine AWP.loopV (α := Option Nat × List (List Int) × Nat) (fun pp : Option Nat × List (List Int) × Nat => match pp with | (B, L, i) => ⟨[(3, .loc B 0 L.length L.length 1), (10, .ro 4 (Tr.avs ks) [] false), (11, int (Tr.avs ks).length), (12, int i)], [(B, ⟨1, rowsO L⟩)]⟩) (fun pp : Option Nat × List (List Int) × Nat => match pp with | (B, L, i) => i ≤ ks.length ∧ (L.length : Int) + sizeTs (ks.drop i) = sizeT (.mk kd nm t ks) ∧ sizeTs (ks.drop i) ≤ sizeTs ks ∧ L ++ pathsK (ks.drop i) i = pathsT (.mk kd nm t ks)) (fun pp : Option Nat × List (List Int) × Nat => match pp with | (B, L, i) => ks.length - i) ((some bo, [[]], 0)) ?_ ?_ ?_
  · exact Leads.keepR (KeepR.cons 0 rfl KeepR.nil) ⟨rfl, rfl, rfl, rfl, trivial⟩
  ·
   show 0 ≤ ks.length ∧ (([[]]).length : Int) + sizeTs (ks.drop 0) = sizeT (.mk kd nm t ks) ∧ sizeTs (ks.drop 0) ≤ sizeTs ks ∧ ([[]]) ++ pathsK (ks.drop 0) 0 = pathsT (.mk kd nm t ks)
   exact ⟨Nat.zero_le _, by rw [List.drop_zero, sizeT]; rfl, by rw [List.drop_zero]; omega, by rw [List.drop_zero, pathsT]; rfl⟩
  ·
   rintro ⟨B, L, i⟩ hinv
   replace hinv : i ≤ ks.length ∧ (L.length : Int) + sizeTs (ks.drop i) = sizeT (.mk kd nm t ks) ∧ sizeTs (ks.drop i) ≤ sizeTs ks ∧ L ++ pathsK (ks.drop i) i = pathsT (.mk kd nm t ks) := hinv
   show AWP _ _ _ _ ⟨[(3, .loc B 0 L.length L.length 1), (10, .ro 4 (Tr.avs ks) [] false), (11, int (Tr.avs ks).length), (12, int i)], [(B, ⟨1, rowsO L⟩)]⟩
   refine AWP.seq ?_
   refine AWP.region ?_
   obtain ⟨hi, hm, hm2, hp⟩ := hinv
   refine Y (bn rfl rfl BinR.lss rfl) rfl ?_
   refine AOps.nil ?_
   refine AWP.seq ?_
   refine AWP.condT rfl (fun g => ?_) (fun g => ?_)
   ·
    replace g := of_decide_eq_true g
    obtain ⟨c, hc, hd⟩ := drop_at (l := ks) (i := i) (by omega)
    rw [hd, pathsK] at hp
    rw [hd, sizeTs] at hm hm2
    have hc1 := sizeT_pos c
    have hc2 := sizeTs_pos (ks.drop (i + 1))
    have hcl := pathsT_length c
    have hcs := pathsT_short c
    obtain ⟨ckd, cnm, ct, cks⟩ := c
    refine AWP.skip ?_
    refine AWP.seq ?_
    refine AWP.block ?_
    refine AWP.seq ?_
    refine AWP.region ?_
    refine Y (mv rfl) rfl ?_
    refine Y (Yields.idx_roN sl23 rfl rfl rfl rfl (by omega)) rfl ?_
    refine Y (Yields.load_rop_aggV kd25 rfl (Tr.avs_at hc) rfl) rfl ?_
    refine AOps.alloc rfl z25 rfl rfl fun bk => ?_
    refine Y (ass rfl) rfl ?_
    refine AOps.store (j := 0) kd25 rfl rfl rfl rfl rfl rfl ?_
    refine AOps.nil ?_
    refine AWP.seq ?_
    refine AWP.region ?_
    refine Y (Yields.load_ptr_agg (j := 0) kd25 rfl rfl rfl rfl) rfl ?_
    refine AOps.callH (.inl trivial) (ih _ (List.mem_of_getElem? hc) (Tr.bnds_get hk3 hc) (by omega)) rfl rfl rfl (WkL.refl _) ?_
    rintro _ _ ⟨Bc, rfl, rfl⟩
    generalize pathsT (Tr.mk ckd cnm ct cks) = Lc at hcl hcs hp
    refine Y (Yields.len_loc sl35 rfl) rfl ?_
    refine Y (mv rfl) rfl ?_
    refine AOps.nil ?_
    refine AWP.block ?_
    refine AWP.loopV (α := Option Nat × Option Nat × List (List Int) × Nat) (fun pp : Option Nat × Option Nat × List (List Int) × Nat => match pp with | (B2, Bc, M, j) => ⟨[(3, .loc B2 0 M.length M.length 1), (4, int i), (10, .ro 4 (Tr.avs ks) [] false), (11, int (Tr.avs ks).length), (12, int i), (18, .loc Bc 0 Lc.length Lc.length 1), (19, int Lc.length), (20, int j)], [(Bc, ⟨1, rowsO Lc⟩), (B2, ⟨1, rowsO M⟩)]⟩) (fun pp : Option Nat × Option Nat × List (List Int) × Nat => match pp with | (B2, Bc, M, j) => j ≤ Lc.length ∧ M.length = L.length + j ∧ M ++ (Lc.drop j).map ((i : Int) :: ·) = L ++ Lc.map ((i : Int) :: ·)) (fun pp : Option Nat × Option Nat × List (List Int) × Nat => match pp with | (B2, Bc, M, j) => Lc.length - j) ((B, Bc, L, 0)) ?_ ?_ ?_
    · exact Leads.keepR (KeepR.cons 0 rfl (KeepR.cons 1 rfl KeepR.nil)) ⟨rfl, rfl, rfl, rfl, rfl, rfl, rfl, rfl, trivial⟩
    ·
     show 0 ≤ Lc.length ∧ L.length = L.length + 0 ∧ L ++ (Lc.drop 0).map ((i : Int) :: ·) = L ++ Lc.map ((i : Int) :: ·)
     exact ⟨Nat.zero_le _, rfl, by rw [List.drop_zero]⟩
    ·
     rintro ⟨B2, Bc, M, j⟩ hinv
     replace hinv : j ≤ Lc.length ∧ M.length = L.length + j ∧ M ++ (Lc.drop j).map ((i : Int) :: ·) = L ++ Lc.map ((i : Int) :: ·) := hinv
     show AWP _ _ _ _ ⟨[(3, .loc B2 0 M.length M.length 1), (4, int i), (10, .ro 4 (Tr.avs ks) [] false), (11, int (Tr.avs ks).length), (12, int i), (18, .loc Bc 0 Lc.length Lc.length 1), (19, int Lc.length), (20, int j)], [(Bc, ⟨1, rowsO Lc⟩), (B2, ⟨1, rowsO M⟩)]⟩
     refine AWP.seq ?_
     refine AWP.region ?_
     obtain ⟨hj, hM, hq⟩ := hinv
     refine Y (bn rfl rfl BinR.lss rfl) rfl ?_
     refine AOps.nil ?_
     refine AWP.seq ?_
     refine AWP.condT rfl (fun g2 => ?_) (fun g2 => ?_)
     ·
      replace g2 := of_decide_eq_true g2
      obtain ⟨x, hx, hdx⟩ := drop_at (l := Lc) (i := j) (by omega)
      rw [hdx, List.map_cons] at hq
      have hxs := hcs x (List.mem_of_getElem? hx)
      have hlx := ints_length x
      refine AWP.someRow 0 rfl (by intro e; have e := congrArg List.length e; simp [rowsO] at e; rw [e] at hx; simp at hx) fun bc hsr => ?_
      subst hsr
      refine AWP.unseal 0 j rfl (rowsO_at hx) (OpenTo.ownV (m := 1) (ys := ints x)) fun Bi => ?_
      refine AWP.skip ?_
      refine AWP.seq ?_
      refine AWP.block ?_
      refine AWP.seq ?_
      refine AWP.region ?_
      refine Y (Yields.idx_locN sl35 rfl rfl (j := j) rfl (by omega)) rfl ?_
      refine Y (Yields.load_ptr_one (j := 1) kd32 rfl rfl (by rw [Nat.zero_add]; exact List.getElem?_set_self (by simp [rowsO]; omega)) rfl rfl) rfl ?_
      refine Y (ass rfl) rfl ?_
      refine AOps.nil ?_
      refine AWP.region ?_
      refine Y (mv rfl) rfl ?_
      refine Y (mv rfl) rfl ?_
      refine AOps.buildSlice sl32 z3 rfl rfl rfl rfl rfl fun bs => ?_
      refine Y (mv rfl) rfl ?_
      refine AOps.appendE (j := 0) sl32 z3 rfl rfl rfl rfl rfl rfl rfl (src_row (j2 := 1) rfl rfl (plain_ints x)) (show [int (i : Int)].length + (ints x).length = ((i : Int) :: x).length by simp [ints]; omega) (show [int (i : Int)] ++ ints x = ints ((i : Int) :: x) from rfl) (by simp [ints]; omega) (by simp [ints]; omega) fun Bm => ?_
      refine AOps.buildSlice sl35 z32 rfl rfl rfl rfl rfl fun bw => ?_
      refine AOps.appendE (j := 4) sl35 z32 rfl rfl rfl rfl rfl (rowsO_length M) rfl (src_row (j2 := 0) rfl rfl rfl) (show M.length + 1 = (M ++ [(i : Int) :: x]).length by simp) rfl (by simp; omega) (by simp; omega) fun Bn => ?_
      refine AOps.leads (Leads.pull 1 rfl) ?_
      refine AOps.leads (Leads.seal 3 M.length rfl get_lastR (SealTo.locV (by simp [ints]) (by simp [ints]))) ?_
      refine AOps.leads (Leads.rowEq 3 rfl set_lastR) ?_
      refine AOps.leads (Leads.pull 1 rfl) ?_
      refine AOps.leads (Leads.seal 1 j rfl (List.getElem?_set_self (by simp [rowsO]; omega)) (SealTo.locV rfl (Nat.le_refl _))) ?_
      refine AOps.leads (Leads.rowEq 1 rfl (show _ = rowsO Lc by rw [List.set_set]; exact set_at_self (rowsO_at hx))) ?_
      refine Y (ass rfl) rfl ?_
      refine AOps.nil ?_
      refine AWP.region ?_
      refine Y (bn rfl rfl (BinR.addI (by omega) (by omega)) rfl) rfl ?_
      refine Y (mv rfl) rfl ?_
      refine AOps.nil ?_
      refine ⟨(Bn, some bc, M ++ [(i : Int) :: x], j + 1), ?_, ?_, ?_⟩
      ·
       show Lc.length - (j + 1) < Lc.length - j
       omega
      ·
       show (j + 1) ≤ Lc.length ∧ (M ++ [(i : Int) :: x]).length = L.length + (j + 1) ∧ (M ++ [(i : Int) :: x]) ++ (Lc.drop (j + 1)).map ((i : Int) :: ·) = L ++ Lc.map ((i : Int) :: ·)
       exact ⟨by omega, by simp; omega, by rw [← hq]; simp⟩
      · exact Leads.keepR (KeepR.cons 1 rfl (KeepR.cons 1 rfl KeepR.nil)) ⟨rfl, rfl, rfl, rfl, rfl, rfl, rfl, rfl, trivial⟩
     ·
      replace g2 := of_decide_eq_false g2
      have hj2 : j = Lc.length := by omega
      subst hj2
      rw [List.drop_length, List.map_nil, List.append_nil] at hq
      refine AWP.exit ?_
      refine AWP.region ?_
      refine Y (bn rfl rfl (BinR.addI (by omega) (by omega)) rfl) rfl ?_
      refine Y (mv rfl) rfl ?_
      refine AOps.nil ?_
      refine ⟨(B2, M, i + 1), ?_, ?_, ?_⟩
      ·
       show ks.length - (i + 1) < ks.length - i
       omega
      ·
       show (i + 1) ≤ ks.length ∧ (M.length : Int) + sizeTs (ks.drop (i + 1)) = sizeT (.mk kd nm t ks) ∧ sizeTs (ks.drop (i + 1)) ≤ sizeTs ks ∧ M ++ pathsK (ks.drop (i + 1)) (i + 1) = pathsT (.mk kd nm t ks)
       exact ⟨by omega, by omega, by omega, by rw [hq, List.append_assoc]; exact hp⟩
      · exact Leads.keepR (KeepR.cons 1 rfl KeepR.nil) ⟨rfl, rfl, rfl, rfl, trivial⟩
   ·
    replace g := of_decide_eq_false g
    rw [List.drop_eq_nil_of_le (by omega), pathsK, List.append_nil] at hp
    refine AWP.exit ?_
    refine AWP.seq ?_
    refine AWP.region ?_
    refine Y (mv rfl) rfl ?_
    refine Y (ass rfl) rfl ?_
    refine AOps.nil ?_
    refine AWP.ret ⟨.inl rfl, ?_⟩
    exact RetH.of (rs := [.tmp 2]) (vs := [_]) rfl ⟨rfl, trivial⟩ (KeepR.cons 0 rfl KeepR.nil) (⟨B, by rw [hp]; rfl, by rw [hp]⟩)
def pathsE (k : Tr) : List (List Int) := if okE k = true then pathsT k else []
theorem pathsE_no {k : Tr} (h : okE k = false) : pathsE k = [] := if_neg (by rw [h]; simp)
theorem pathsE_length (k : Tr) : ((pathsE k).length : Int) ≤ sizeT k := by
  unfold pathsE
  split
  · rw [pathsT_length]; omega
  · have := sizeT_pos k; simp; omega
theorem pathsE_short (k : Tr) : ∀ p ∈ pathsE k, (p.length : Int) < sizeT k := by
  unfold pathsE
  split
  · exact pathsT_short k
  · simp
theorem behind_nil (L : List (List Int)) : behind [] L = L := by simp [behind]
theorem iExprPaths_AH (k : Tr) (hk : k.bnd 1000000) (hz : sizeT k ≤ 2000000) : FnH 22 [] [k.av] (ownR (pathsE k)) := by
  obtain ⟨kd, nm, t, ks⟩ := k
  refine AH.intro Tryz.func22 nm22 rfl rfl rfl fun w0 ok0 own0 => ?_
  refine AWP.seq ?_
  refine AWP.region ?_
  refine AOps.box rfl rfl rfl rfl fun b1 => ?_
  refine Y (ass rfl) rfl ?_
  refine AOps.nil ?_
  refine AWP.seq ?_
  refine AWP.seq ?_
  refine AWP.region ?_
  refine Y (Yields.load_ptr_agg (j := 0) kd25 rfl rfl rfl rfl) rfl ?_
  refine AOps.callro (iExprOk_AF' (.mk kd nm t ks) hk) rfl rfl rfl ?_
  refine Y (Yields.not rfl) rfl ?_
  refine AOps.nil ?_
  refine AWP.condT rfl (fun h => ?_) (fun h => ?_)
  ·
   skip
   refine AWP.seq ?_
   refine AWP.region ?_
   have h : okE (.mk kd nm t ks) = false := by simpa using h
   refine Y (ass rfl) rfl ?_
   refine AOps.nil ?_
   refine AWP.leads (Leads.own0 2 1 rfl) ?_
   refine AWP.ret ⟨.inl rfl, ?_⟩
   exact RetH.of (rs := [.tmp 2]) (vs := [_]) rfl ⟨rfl, trivial⟩ (KeepR.cons 0 rfl KeepR.nil) (⟨none, by rw [pathsE_no h]; rfl, by rw [pathsE_no h]; rfl⟩)
  ·
   skip
   have h : okE (.mk kd nm t ks) = true := by simpa using h
   refine AWP.skip ?_
   refine AWP.seq ?_
   refine AWP.region ?_
   refine Y (Yields.load_ptr_agg (j := 0) kd25 rfl rfl rfl rfl) rfl ?_
   refine AOps.callH (.inl trivial) (ipaths_AH (.mk kd nm t ks) hk hz) rfl rfl rfl (WkL.refl _) ?_
   rintro _ _ ⟨Bc, rfl, rfl⟩
   refine Y (ass rfl) rfl ?_
   refine AOps.nil ?_
   refine AWP.ret ⟨.inl rfl, ?_⟩
   exact RetH.of (rs := [.tmp 2]) (vs := [_]) rfl ⟨rfl, trivial⟩ (KeepR.cons 0 rfl KeepR.nil) (⟨Bc, by rw [pathsE, if_pos h]; rfl, by rw [pathsE, if_pos h]⟩)
theorem iExprPaths_AF (k : Tr) (hk : k.bnd 1000000) (hz : sizeT k ≤ 2000000) : Fn 22 [k.av] (.ro 1 (rowsR (pathsE k)) [] false) :=
  AH.toF (by simp [plainL, plainV, Tr.plain_av]) (iExprPaths_AH k hk hz) (fun r hp' h => ownR.fz h)
end Go.Proofs.YteieleejhbljfaaGreat
