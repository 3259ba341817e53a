/- What is at a path; copies; another expression put at a path. -/
import Derived.Test.YtccdgppplkfjfaaGreatInts
import Derived.Test.YtccdgppplkfjfaaGreatLike
namespace Go.Proofs.YtccdgppplkfjfaaGreat
open Go Go.Ax Go.Proofs
set_option linter.unusedVariables false
set_option linter.unusedSimpArgs false
set_option maxRecDepth 20000
def nilTr : Tr := .mk 0 0 ⟨#[]⟩ []
def atT : Tr → List Int → Option Tr
  | k, [] => some k
  | .mk _ _ _ ks, i :: p => if 0 ≤ i ∧ i < ks.length then (match ks[i.toNat]? with | some x => atT x p | none => none) else none
theorem atT_bad {k n : Int} {t : ByteArray} {ks : List Tr} {i : Int} {p : List Int} (h : ¬ (0 ≤ i ∧ i < ks.length)) : atT (.mk k n t ks) (i :: p) = none := by rw [atT, if_neg h]
theorem atT_step {k n : Int} {t : ByteArray} {ks : List Tr} {i : Int} {p : List Int} {x : Tr} (h : 0 ≤ i ∧ i < ks.length) (hx : ks[i.toNat]? = some x) : atT (.mk k n t ks) (i :: p) = atT x p := by rw [atT, if_pos h, hx]
def atV (k : Tr) (p : List Int) : Tr := (atT k p).getD nilTr
theorem atV_bnd {N : Nat} : ∀ (p : List Int) (k : Tr), k.bnd N → ∀ x, atT k p = some x → x.bnd N
  | [], k, h, x, hx => by rw [atT] at hx; cases hx; exact h
  | i :: p, .mk a b c ks, h, x, hx => by
    rw [atT] at hx
    split at hx
    · split at hx
      · rename_i y hy; exact atV_bnd p y (Tr.bnds_get h.2.2 hy) x hx
      · cases hx
    · cases hx
def roTB (k : Tr) (b : Bool) : AV → Hp → Prop := fun r hp' => r = .tup [k.av, bool b] ∧ hp' = []
theorem avXs_take (l : List Tr) {i : Nat} {k : Tr} (h : l[i]? = some k) : Tr.avXs Tr.nosp (l.take i) ++ [k.avX Tr.nosp] = Tr.avXs Tr.nosp (l.take (i + 1)) := by
  rw [List.take_add_one, h, Tr.avXs_append]; rfl
theorem icopied_AH (k : Tr) : k.bnd 1000000 → FnH 19 [] [k.av] (ownT k) := by
  induction k using Tr.ind
  rename_i kd nm t ks ih
  intro hk
  simp only [Tr.bnd] at hk
  obtain ⟨hk1, hk2, hk3⟩ := hk
  have hlen := Tr.avs_length ks
  refine AH.intro Tryz.func19 nm19 rfl rfl rfl fun w0 ok0 own0 => ?_
  refine AWP.seq ?_
  refine AWP.region ?_
  refine AOps.box rfl rfl rfl rfl fun b1 => ?_
  refine AOps.alloc rfl z28 rfl rfl fun b2 => ?_
  refine AOps.nil ?_
  refine AWP.seq ?_
  refine AWP.region ?_
  refine Y (Yields.load_ptr_agg (j := 1) kd28 rfl rfl rfl rfl) rfl ?_
  refine AOps.alloc rfl z28 rfl rfl fun b3 => ?_
  refine AOps.store (j := 0) kd28 rfl rfl rfl rfl rfl rfl ?_
  refine AOps.nil ?_
  refine AWP.seq ?_
  refine AWP.region ?_
  refine Y (Yields.fieldAddr_ptr fo28_3 rfl) rfl ?_
  refine AOps.storeField (j := 0) kd26 rfl rfl rfl rfl rfl rfl rfl ?_
  refine AOps.nil ?_
  refine AWP.leads (Leads.rowWk 0 0 rfl rfl (Wk.agg (ps := [_, _, _, .loc none 0 0 0 4]) ⟨Wk.refl _, Wk.refl _, Wk.refl _, Wk.nilLoc (n := 4), trivial⟩)) ?_
  refine AWP.leads (Leads.row0 4) ?_
  refine AWP.seq ?_
  refine AWP.seq ?_
  refine AWP.region ?_
  refine Y (Yields.fieldAddr_ptr fo28_3 rfl) rfl ?_
  refine Y (Yields.load_ptr_field (j := 3) kd26 rfl rfl rfl rfl rfl rfl rfl) rfl ?_
  refine Y (Yields.len_ro sl26 rfl) rfl ?_
  refine Y (mv rfl) rfl ?_
  refine AOps.nil ?_
  refine AWP.block ?_
  refine AWP.loopV (α := Option Nat × Nat) (fun pp : Option Nat × Nat => match pp with | (B, i) => ⟨[(2, .ptr (some b2) 0 0 4), (3, .ptr (some b3) 0 0 4), (9, .ro 4 (Tr.avs ks) [] false), (10, int (Tr.avs ks).length), (11, int i)], [(some b3, ⟨4, [.agg [int kd, int nm, str t, .loc B 0 i i 4]]⟩), (B, ⟨4, Tr.avXs Tr.nosp (ks.take i)⟩), (some b2, ⟨4, [zero4]⟩)]⟩) (fun pp : Option Nat × Nat => match pp with | (B, i) => i ≤ ks.length) (fun pp : Option Nat × Nat => match pp with | (B, i) => ks.length - i) ((none, 0)) ?_ ?_ ?_
  · exact Leads.keepR (KeepR.cons 1 rfl (KeepR.cons 0 rfl (KeepR.cons 0 rfl KeepR.nil))) ⟨rfl, rfl, rfl, rfl, rfl, trivial⟩
  ·
   show 0 ≤ ks.length
   exact Nat.zero_le _
  ·
   rintro ⟨B, i⟩ hinv
   replace hinv : i ≤ ks.length := hinv
   show AWP _ _ _ _ ⟨[(2, .ptr (some b2) 0 0 4), (3, .ptr (some b3) 0 0 4), (9, .ro 4 (Tr.avs ks) [] false), (10, int (Tr.avs ks).length), (11, int i)], [(some b3, ⟨4, [.agg [int kd, int nm, str t, .loc B 0 i i 4]]⟩), (B, ⟨4, Tr.avXs Tr.nosp (ks.take i)⟩), (some b2, ⟨4, [zero4]⟩)]⟩
   refine AWP.seq ?_
   refine AWP.region ?_
   refine Y (bn rfl rfl BinR.lss rfl) rfl ?_
   refine AOps.nil ?_
   refine AWP.seq ?_
   refine AWP.condT rfl (fun g => ?_) (fun g => ?_)
   ·
    replace g := of_decide_eq_true g
    obtain ⟨k, hk, hd⟩ := drop_at (l := ks) (i := i) (by omega)
    have hA : (Tr.avXs Tr.nosp (ks.take i)).length = i := by rw [Tr.avXs_length, List.length_take]; omega
    obtain ⟨ckd, cnm, ct, cks⟩ := k
    refine AWP.skip ?_
    refine AWP.seq ?_
    refine AWP.block ?_
    refine AWP.seq ?_
    refine AWP.region ?_
    refine Y (Yields.idx_roN sl26 rfl rfl rfl rfl (by omega)) rfl ?_
    refine Y (Yields.load_rop_aggV kd28 rfl (Tr.avs_at hk) rfl) rfl ?_
    refine AOps.alloc rfl z28 rfl rfl fun b1 => ?_
    refine AOps.store (j := 0) kd28 rfl rfl rfl rfl rfl rfl ?_
    refine AOps.nil ?_
    refine AWP.prune (tm' := [(2, _), (3, _), (9, _), (10, _), (11, _), (12, _), (5, _)]) ⟨rfl, rfl, rfl, rfl, rfl, rfl, rfl, trivial⟩ ?_
    refine AWP.drawnS [(3, 4)] 5 mixed rfl rfl rfl rfl rfl ?_
    refine DU (tm' := [(3, _)]) ⟨rfl, trivial⟩ rfl (DStep.yields (Yields.fieldAddr_ptr fo28_3 rfl)) rfl ?_
    refine DU (tm' := [(15, _)]) ⟨rfl, trivial⟩ rfl (DStep.yields (Yields.load_ptr_field (j := 1) kd26 rfl rfl rfl rfl rfl rfl rfl)) rfl ?_
    refine DU (tm' := [(5, _)]) ⟨rfl, trivial⟩ rfl (DStep.yields (Yields.load_ptr_agg (j := 0) kd28 rfl rfl rfl rfl)) rfl ?_
    refine DUs (tm' := [(17, _)]) ⟨rfl, trivial⟩ rfl rfl (DStepU.callF (AH.toOwn (by simp [plainL, plainV, Tr.plain_av]) (ih _ (List.mem_of_getElem? hk) (Tr.bnds_get hk3 hk)) (fun r hp' h => ownT.close h)) rfl (WkL.refl _)) rfl ?_
    refine DUs (tm' := []) trivial rfl rfl (DStepU.buildOne sl26 z28 (Tr.avX_cell _ _) (Tr.avX_width _ _) rfl) rfl ?_
    refine DOpsU.nil ?_
    intro Bs
    refine AOps.unseal 0 0 rfl rfl (openT_to _ _ _ _) fun Bk => ?_
    refine AOps.appendE (j := 4) sl26 z28 rfl rfl rfl rfl rfl hA rfl (src_row (j2 := 1) rfl rfl rfl) (show i + 1 = i + 1 from rfl) rfl (by omega) (by omega) fun Bn => ?_
    refine AOps.leads (Leads.seal 3 i rfl (get_one hA) (sealT _ _ _ _ _)) ?_
    refine AOps.leads (Leads.rowEq 3 rfl (show (Tr.avXs Tr.nosp (ks.take i) ++ [openT Bk (.mk ckd cnm ct cks)]).set i (Tr.avX Tr.nosp (.mk ckd cnm ct cks)) = Tr.avXs Tr.nosp (ks.take (i + 1)) by rw [app_one hA, avXs_take ks hk])) ?_
    refine Y (Yields.fieldAddr_ptr fo28_3 rfl) rfl ?_
    refine AOps.storeField (j := 2) kd26 rfl rfl rfl rfl rfl rfl rfl ?_
    refine AOps.nil ?_
    refine AWP.region ?_
    refine Y (bn rfl rfl (BinR.addI (by omega) (by omega)) rfl) rfl ?_
    refine Y (mv rfl) rfl ?_
    refine AOps.nil ?_
    refine ⟨(Bn, i + 1), ?_, ?_, ?_⟩
    ·
     show ks.length - (i + 1) < ks.length - i
     omega
    ·
     show (i + 1) ≤ ks.length
     omega
    · exact Leads.keepR (KeepR.cons 2 rfl (KeepR.cons 2 rfl (KeepR.cons 2 rfl KeepR.nil))) ⟨rfl, rfl, rfl, rfl, rfl, trivial⟩
   ·
    replace g := of_decide_eq_false g
    have hi' : i = ks.length := by omega
    subst hi'
    refine AWP.exit ?_
    refine AWP.seq ?_
    refine AWP.region ?_
    refine Y (Yields.load_ptr_agg (j := 0) kd28 rfl rfl rfl rfl) rfl ?_
    refine AOps.store (j := 2) kd28 rfl rfl rfl rfl rfl rfl ?_
    refine AOps.nil ?_
    refine AWP.ret ⟨.inl rfl, ?_⟩
    exact RetH.of (rs := [.cell 2 28]) (vs := [_]) rfl ⟨resOne.cell (j := 2) rfl rfl kd28 rfl rfl rfl, trivial⟩ (KeepR.cons 1 rfl KeepR.nil) (⟨B, rfl, by rw [Tr.kids, List.take_length]⟩)
theorem scopied_AH (k : Tr) : k.bnd 1000000 → FnH 15 [] [k.av] (ownT k) := by
  induction k using Tr.ind
  rename_i kd nm t ks ih
  intro hk
  simp only [Tr.bnd] at hk
  obtain ⟨hk1, hk2, hk3⟩ := hk
  have hlen := Tr.avs_length ks
  refine AH.intro Tryz.func15 nm15 rfl rfl rfl fun w0 ok0 own0 => ?_
  refine AWP.seq ?_
  refine AWP.region ?_
  refine AOps.box rfl rfl rfl rfl fun b1 => ?_
  refine AOps.alloc rfl z28 rfl rfl fun b2 => ?_
  refine AOps.nil ?_
  refine AWP.seq ?_
  refine AWP.region ?_
  refine Y (Yields.load_ptr_agg (j := 1) kd28 rfl rfl rfl rfl) rfl ?_
  refine AOps.alloc rfl z28 rfl rfl fun b3 => ?_
  refine AOps.store (j := 0) kd28 rfl rfl rfl rfl rfl rfl ?_
  refine AOps.nil ?_
  refine AWP.seq ?_
  refine AWP.region ?_
  refine Y (Yields.fieldAddr_ptr fo28_3 rfl) rfl ?_
  refine AOps.storeField (j := 0) kd26 rfl rfl rfl rfl rfl rfl rfl ?_
  refine AOps.nil ?_
  refine AWP.leads (Leads.rowWk 0 0 rfl rfl (Wk.agg (ps := [_, _, _, .loc none 0 0 0 4]) ⟨Wk.refl _, Wk.refl _, Wk.refl _, Wk.nilLoc (n := 4), trivial⟩)) ?_
  refine AWP.leads (Leads.row0 4) ?_
  refine AWP.seq ?_
  refine AWP.seq ?_
  refine AWP.region ?_
  refine Y (ass rfl) rfl ?_
  refine AOps.nil ?_
  refine AWP.block ?_
  refine AWP.loopV (α := Option Nat × Nat) (fun pp : Option Nat × Nat => match pp with | (B, i) => ⟨[(1, .ptr (some b1) 0 0 4), (2, .ptr (some b2) 0 0 4), (3, .ptr (some b3) 0 0 4), (4, int i)], [(some b3, ⟨4, [.agg [int kd, int nm, str t, .loc B 0 i i 4]]⟩), (B, ⟨4, Tr.avXs Tr.nosp (ks.take i)⟩), (some b2, ⟨4, [zero4]⟩), (some b1, ⟨4, [Tr.av (.mk kd nm t ks)]⟩)]⟩) (fun pp : Option Nat × Nat => match pp with | (B, i) => i ≤ ks.length) (fun pp : Option Nat × Nat => match pp with | (B, i) => ks.length - i) ((none, 0)) ?_ ?_ ?_
  · exact Leads.keepR (KeepR.cons 1 rfl (KeepR.cons 0 rfl (KeepR.cons 0 rfl (KeepR.cons 0 rfl KeepR.nil)))) ⟨rfl, rfl, rfl, rfl, trivial⟩
  ·
   show 0 ≤ ks.length
   exact Nat.zero_le _
  ·
   rintro ⟨B, i⟩ hinv
   replace hinv : i ≤ ks.length := hinv
   show AWP _ _ _ _ ⟨[(1, .ptr (some b1) 0 0 4), (2, .ptr (some b2) 0 0 4), (3, .ptr (some b3) 0 0 4), (4, int i)], [(some b3, ⟨4, [.agg [int kd, int nm, str t, .loc B 0 i i 4]]⟩), (B, ⟨4, Tr.avXs Tr.nosp (ks.take i)⟩), (some b2, ⟨4, [zero4]⟩), (some b1, ⟨4, [Tr.av (.mk kd nm t ks)]⟩)]⟩
   refine AWP.seq ?_
   refine AWP.seq ?_
   refine AWP.region ?_
   refine Y (mv rfl) rfl ?_
   refine Y (Yields.fieldAddr_ptr fo28_3 rfl) rfl ?_
   refine Y (Yields.load_ptr_field (j := 3) kd26 rfl rfl rfl rfl rfl rfl rfl) rfl ?_
   refine Y (Yields.len_ro sl26 rfl) rfl ?_
   refine Y (bn rfl rfl BinR.lss rfl) rfl ?_
   refine AOps.nil ?_
   refine AWP.condT rfl (fun g => ?_) (fun g => ?_)
   ·
    replace g := of_decide_eq_true g
    obtain ⟨k, hk, hd⟩ := drop_at (l := ks) (i := i) (by omega)
    have hA : (Tr.avXs Tr.nosp (ks.take i)).length = i := by rw [Tr.avXs_length, List.length_take]; omega
    obtain ⟨ckd, cnm, ct, cks⟩ := k
    refine AWP.skip ?_
    refine AWP.seq ?_
    refine AWP.block ?_
    refine AWP.prune (tm' := [(1, _), (2, _), (3, _), (4, _), (11, _)]) ⟨rfl, rfl, rfl, rfl, rfl, trivial⟩ ?_
    refine AWP.drawnS [(7, 8)] 9 mixed rfl rfl rfl rfl rfl ?_
    refine DU (tm' := [(3, _)]) ⟨rfl, trivial⟩ rfl (DStep.yields (Yields.fieldAddr_ptr fo28_3 rfl)) rfl ?_
    refine DU (tm' := [(14, _)]) ⟨rfl, trivial⟩ rfl (DStep.yields (Yields.load_ptr_field (j := 0) kd26 rfl rfl rfl rfl rfl rfl rfl)) rfl ?_
    refine DU (tm' := [(1, _)]) ⟨rfl, trivial⟩ rfl (DStep.yields (Yields.fieldAddr_ptr fo28_3 rfl)) rfl ?_
    refine DU (tm' := [(16, _)]) ⟨rfl, trivial⟩ rfl (DStep.yields (Yields.load_ptr_field (j := 3) kd26 rfl rfl rfl rfl rfl rfl rfl)) rfl ?_
    refine DU (tm' := [(4, _)]) ⟨rfl, trivial⟩ rfl (DStep.yields (mv rfl)) rfl ?_
    refine DU (tm' := [(17, _), (18, _)]) ⟨rfl, rfl, trivial⟩ rfl (DStep.yields (Yields.idx_roN sl26 rfl rfl rfl rfl (by omega))) rfl ?_
    refine DU (tm' := [(19, _)]) ⟨rfl, trivial⟩ rfl (DStep.yields (Yields.load_rop_aggV kd28 rfl (Tr.avs_at hk) rfl)) rfl ?_
    refine DUs (tm' := [(20, _)]) ⟨rfl, trivial⟩ rfl rfl (DStepU.callF (AH.toOwn (by simp [plainL, plainV, Tr.plain_av]) (ih _ (List.mem_of_getElem? hk) (Tr.bnds_get hk3 hk)) (fun r hp' h => ownT.close h)) rfl (WkL.refl _)) rfl ?_
    refine DUs (tm' := []) trivial rfl rfl (DStepU.buildOne sl26 z28 (Tr.avX_cell _ _) (Tr.avX_width _ _) rfl) rfl ?_
    refine DOpsU.nil ?_
    intro Bs
    refine AOps.unseal 0 0 rfl rfl (openT_to _ _ _ _) fun Bk => ?_
    refine AOps.appendE (j := 3) sl26 z28 rfl rfl rfl rfl rfl hA rfl (src_row (j2 := 1) rfl rfl rfl) (show i + 1 = i + 1 from rfl) rfl (by omega) (by omega) fun Bn => ?_
    refine AOps.leads (Leads.seal 2 i rfl (get_one hA) (sealT _ _ _ _ _)) ?_
    refine AOps.leads (Leads.rowEq 2 rfl (show (Tr.avXs Tr.nosp (ks.take i) ++ [openT Bk (.mk ckd cnm ct cks)]).set i (Tr.avX Tr.nosp (.mk ckd cnm ct cks)) = Tr.avXs Tr.nosp (ks.take (i + 1)) by rw [app_one hA, avXs_take ks hk])) ?_
    refine Y (Yields.fieldAddr_ptr fo28_3 rfl) rfl ?_
    refine AOps.storeField (j := 1) kd26 rfl rfl rfl rfl rfl rfl rfl ?_
    refine AOps.nil ?_
    refine AWP.region ?_
    refine Y (mv rfl) rfl ?_
    refine Y (bn rfl rfl (BinR.addI (by omega) (by omega)) rfl) rfl ?_
    refine Y (ass rfl) rfl ?_
    refine AOps.nil ?_
    refine ⟨(Bn, i + 1), ?_, ?_, ?_⟩
    ·
     show ks.length - (i + 1) < ks.length - i
     omega
    ·
     show (i + 1) ≤ ks.length
     omega
    · exact Leads.keepR (KeepR.cons 1 rfl (KeepR.cons 1 rfl (KeepR.cons 1 rfl (KeepR.cons 1 rfl KeepR.nil)))) ⟨rfl, rfl, rfl, rfl, trivial⟩
   ·
    replace g := of_decide_eq_false g
    have hi' : i = ks.length := by omega
    subst hi'
    refine AWP.exit ?_
    refine AWP.seq ?_
    refine AWP.region ?_
    refine Y (Yields.load_ptr_agg (j := 0) kd28 rfl rfl rfl rfl) rfl ?_
    refine AOps.store (j := 2) kd28 rfl rfl rfl rfl rfl rfl ?_
    refine AOps.nil ?_
    refine AWP.ret ⟨.inl rfl, ?_⟩
    exact RetH.of (rs := [.cell 2 28]) (vs := [_]) rfl ⟨resOne.cell (j := 2) rfl rfl kd28 rfl rfl rfl, trivial⟩ (KeepR.cons 1 rfl KeepR.nil) (⟨B, rfl, by rw [Tr.kids, List.take_length]⟩)
def putT : Tr → List Int → Tr → Tr
  | _, [], x => x
  | .mk a b c ks, i :: p, x => .mk a b c (ks.set i.toNat (match ks[i.toNat]? with | some y => putT y p x | none => nilTr))
theorem putT_step {a b : Int} {c : ByteArray} {ks : List Tr} {i : Int} {p : List Int} {x y : Tr} (h : ks[i.toNat]? = some y) : putT (.mk a b c ks) (i :: p) x = .mk a b c (ks.set i.toNat (putT y p x)) := by rw [putT, h]
theorem at_cons {a b : Int} {c : ByteArray} {ks : List Tr} {i : Int} {p : List Int} (h : (atT (.mk a b c ks) (i :: p)).isSome = true) : 0 ≤ i ∧ i < ks.length ∧ ∃ y, ks[i.toNat]? = some y ∧ (atT y p).isSome = true := by
  rw [atT] at h
  split at h
  · rename_i hh
    obtain ⟨y, hy, _⟩ := drop_at (l := ks) (i := i.toNat) (by omega)
    rw [hy] at h
    exact ⟨hh.1, hh.2, y, hy, h⟩
  · cases h
theorem avXs_set (l : List Tr) (i : Nat) (k : Tr) : Tr.avXs Tr.nosp (l.set i k) = (Tr.avXs Tr.nosp l).set i (k.avX Tr.nosp) := by
  induction l generalizing i with
  | nil => rfl
  | cons a l ih =>
    cases i with
    | zero => rfl
    | succ i => simp [Tr.avXs, ih]
theorem cut_ints (i : Int) (p : List Int) : ((ints (i :: p) ++ []).drop 1).take ((ints (i :: p)).length - 1) = ints p := by
  simp [ints]; exact List.take_of_length_le (by simp)
end Go.Proofs.YtccdgppplkfjfaaGreat
