/- What an expression calls. -/
import Derived.Test.YteieleejhbljfaaGreatStrs
namespace Go.Proofs.YteieleejhbljfaaGreat
open Go Go.Ax Go.Proofs
set_option linter.unusedVariables false
set_option linter.unusedSimpArgs false
set_option maxRecDepth 20000

def ownS (l : List ByteArray) : AV → Hp → Prop := fun r hp' => ∃ B : Option Nat, r = .loc B 0 l.length l.length 1 ∧ hp' = [(B, ⟨1, strs l⟩)]
theorem ownS.fz {l : List ByteArray} {r : AV} {hp' : Hp} (h : ownS l r hp') : Fz hp' r (.ro 1 (strs l) [] false) := by
  obtain ⟨B, rfl, rfl⟩ := h
  exact (Bor.loc (j := 0) rfl (by simp [strs]) (by rw [List.take_of_length_le (by simp [strs])]; exact viewL_strs l)).fz
theorem ownS.free {l : List ByteArray} {r : AV} {hp' : Hp} (h : ownS l r hp') : Free r ∧ ∀ B row, (B, row) ∈ hp' → FreeL row.xs := by
  obtain ⟨B, rfl, rfl⟩ := h
  refine ⟨fun w ok ok' cs F hr => ?_, fun B' row hm => ?_⟩
  · cases B <;> simpa only [Rep] using hr
  · simp at hm; obtain ⟨rfl, rfl⟩ := hm; exact freeL_strs l
def joinL : List ByteArray → List ByteArray → List ByteArray
  | a, [] => a
  | a, n :: b => joinL (if memB a n = true then a else a ++ [n]) b
theorem joinL_length : ∀ (b a : List ByteArray), (joinL a b).length ≤ a.length + b.length
  | [], a => by simp [joinL]
  | n :: b, a => by
    rw [joinL]
    have := joinL_length b (if memB a n = true then a else a ++ [n])
    split at this <;> rename_i h
    · rw [if_pos h]; simp; omega
    · rw [if_neg h]; simp at this ⊢; omega
mutual
def callsT : Tr → List ByteArray
  | .mk k _ t ks => callsK ks (if k = 4 then [t] else [])
def callsK : List Tr → List ByteArray → List ByteArray
  | [], out => out
  | k :: ks, out => callsK ks (joinL out (callsT k))
end
mutual
theorem callsT_length : ∀ k : Tr, ((callsT k).length : Int) ≤ sizeT k
  | .mk k n t ks => by
    rw [callsT, sizeT]
    have := callsK_length ks (if k = 4 then [t] else [])
    split at this <;> rename_i h
    · rw [if_pos h]; simp at this; omega
    · rw [if_neg h]; simp at this; omega
theorem callsK_length : ∀ (ks : List Tr) (out : List ByteArray), ((callsK ks out).length : Int) ≤ out.length + sizeTs ks
  | [], out => by rw [callsK, sizeTs]; omega
  | k :: ks, out => by
    rw [callsK, sizeTs]
    have h1 := callsK_length ks (joinL out (callsT k))
    have h2 := joinL_length (callsT k) out
    have h3 := callsT_length k
    omega
end
theorem len_app (l : List ByteArray) (t : ByteArray) : l.length + [str t].length = (l ++ [t]).length := by simp
theorem drop_at' {α : Type} {l : List α} {i : Nat} {x : α} (h : l[i]? = some x) : l.drop i = x :: l.drop (i + 1) := by
  obtain ⟨hi, e⟩ := List.getElem?_eq_some_iff.1 h
  rw [List.drop_eq_getElem_cons hi, e]

theorem icalls_AH (k : Tr) : k.bnd 1000000 → sizeT k ≤ 2000000 → FnH 29 [] [k.av] (ownS (callsT k)) := by
  induction k using Tr.ind
  rename_i kd nm t ks ih
  intro hk hz
  simp only [Tr.bnd] at hk
  obtain ⟨hk1, hk2, hk3⟩ := hk
  have hlen := Tr.avs_length ks
  have hz0 := hz
  rw [sizeT] at hz0
  refine AH.intro Tryz.func29 nm29 rfl rfl rfl fun w0 ok0 own0 => ?_
  refine AWP.seq ?_
  refine AWP.region ?_
  refine AOps.box rfl rfl rfl rfl fun b1 => ?_
  refine Y (ass rfl) rfl ?_
  refine AOps.nil ?_
  refine AWP.seq ?_
  refine AWP.region ?_
  refine Y (ass rfl) rfl ?_
  refine AOps.nil ?_
  refine AWP.leads (Leads.own0 3 1 rfl) ?_
  refine AWP.midE (α := Option Nat × List ByteArray) (fun pp : Option Nat × List ByteArray => match pp with | (B, l) => ⟨[(1, .ptr (some b1) 0 0 4), (3, .loc B 0 l.length l.length 1)], [(B, ⟨1, strs l⟩), (some b1, ⟨4, [Tr.av (.mk kd nm t ks)]⟩)]⟩) (fun pp : Option Nat × List ByteArray => match pp with | (B, l) => l = if kd = 4 then [t] else []) ?_ ?_
  ·
   skip
   refine AWP.seq ?_
   refine AWP.region ?_
   refine Y (Yields.fieldAddr_ptr fo25_0 rfl) rfl ?_
   refine Y (Yields.load_ptr_field (j := 1) kd3 rfl rfl rfl rfl rfl rfl rfl) rfl ?_
   refine Y (bn rfl rfl BinR.eql rfl) rfl ?_
   refine AOps.nil ?_
   refine AWP.condT rfl (fun h => ?_) (fun h => ?_)
   ·
    replace h := eq_of_beq h
    refine AWP.region ?_
    refine Y (mv rfl) rfl ?_
    refine Y (Yields.fieldAddr_ptr fo25_2 rfl) rfl ?_
    refine Y (Yields.load_ptr_field (j := 1) kd9 rfl rfl rfl rfl rfl rfl rfl) rfl ?_
    refine AOps.buildSlice sl27 z9 rfl rfl rfl rfl rfl fun bs => ?_
    refine AOps.appendE (j := 1) sl27 z9 rfl rfl rfl rfl rfl rfl rfl (src_row (j2 := 0) rfl rfl rfl) (len_app [] t) (strs_app [] t) (by simp) (by simp) fun Bn => ?_
    refine Y (ass rfl) rfl ?_
    refine AOps.nil ?_
    refine ⟨(Bn, [t]), ?_, ?_⟩
    ·
     show ([t]) = if kd = 4 then [t] else []
     rw [if_pos h]
    · exact Leads.keepR (KeepR.cons 1 rfl (KeepR.cons 1 rfl KeepR.nil)) ⟨rfl, rfl, trivial⟩
   ·
    replace h := ne_of_beq_false h
    refine AWP.skip ?_
    refine ⟨(none, []), ?_, ?_⟩
    ·
     show ([]) = if kd = 4 then [t] else []
     rw [if_neg h]
    · exact Leads.keepR (KeepR.cons 0 rfl (KeepR.cons 0 rfl KeepR.nil)) ⟨rfl, rfl, trivial⟩
  ·
   rintro ⟨B, l⟩ hinv
   replace hinv : l = if kd = 4 then [t] else [] := hinv
   show AWP _ _ _ _ ⟨[(1, .ptr (some b1) 0 0 4), (3, .loc B 0 l.length l.length 1)], [(B, ⟨1, strs l⟩), (some b1, ⟨4, [Tr.av (.mk kd nm t ks)]⟩)]⟩
   refine AWP.seq ?_
   refine AWP.seq ?_
   refine AWP.region ?_
   have hl1 : (l.length : Int) ≤ 1 := by rw [hinv]; split <;> simp
   refine Y (Yields.fieldAddr_ptr fo25_3 rfl) rfl ?_
   refine Y (Yields.load_ptr_field (j := 1) kd23 rfl rfl rfl rfl rfl rfl rfl) rfl ?_
   refine Y (Yields.len_ro sl23 rfl) rfl ?_
   refine Y (mv rfl) rfl ?_
   refine AOps.nil ?_
   refine AWP.block ?_
   refine AWP.loopV (α := Option Nat × List ByteArray × Nat) (fun pp : Option Nat × List ByteArray × Nat => match pp with | (B, l, i) => ⟨[(3, .loc B 0 l.length l.length 1), (17, .ro 4 (Tr.avs ks) [] false), (18, int (Tr.avs ks).length), (19, int i)], [(B, ⟨1, strs l⟩)]⟩) (fun pp : Option Nat × List ByteArray × Nat => match pp with | (B, l, i) => i ≤ ks.length ∧ (l.length : Int) + sizeTs (ks.drop i) ≤ 2000000 ∧ callsK (ks.drop i) l = callsT (.mk kd nm t ks)) (fun pp : Option Nat × List ByteArray × Nat => match pp with | (B, l, i) => ks.length - i) ((B, l, 0)) ?_ ?_ ?_
   · exact Leads.keepR (KeepR.cons 0 rfl KeepR.nil) ⟨rfl, rfl, rfl, rfl, trivial⟩
   ·
    show 0 ≤ ks.length ∧ (l.length : Int) + sizeTs (ks.drop 0) ≤ 2000000 ∧ callsK (ks.drop 0) l = callsT (.mk kd nm t ks)
    exact ⟨Nat.zero_le _, by rw [List.drop_zero]; omega, by rw [List.drop_zero, callsT, hinv]⟩
   ·
    rintro ⟨B, l, i⟩ hinv
    replace hinv : i ≤ ks.length ∧ (l.length : Int) + sizeTs (ks.drop i) ≤ 2000000 ∧ callsK (ks.drop i) l = callsT (.mk kd nm t ks) := hinv
    show AWP _ _ _ _ ⟨[(3, .loc B 0 l.length l.length 1), (17, .ro 4 (Tr.avs ks) [] false), (18, int (Tr.avs ks).length), (19, int i)], [(B, ⟨1, strs l⟩)]⟩
    refine AWP.seq ?_
    refine AWP.region ?_
    obtain ⟨hi, hm, hp⟩ := hinv
    refine Y (bn rfl rfl BinR.lss rfl) rfl ?_
    refine AOps.nil ?_
    refine AWP.seq ?_
    refine AWP.condT rfl (fun g => ?_) (fun g => ?_)
    ·
     replace g := of_decide_eq_true g
     obtain ⟨k, hk, hd⟩ := drop_at (l := ks) (i := i) (by omega)
     rw [hd, callsK] at hp
     rw [hd, sizeTs] at hm
     have hk1 := sizeT_pos k
     have hk2 := sizeTs_pos (ks.drop (i + 1))
     have hlc := callsT_length k
     obtain ⟨ckd, cnm, ct, cks⟩ := k
     refine AWP.skip ?_
     refine AWP.seq ?_
     refine AWP.block ?_
     refine AWP.seq ?_
     refine AWP.region ?_
     refine Y (Yields.idx_roN sl23 rfl rfl rfl rfl (by omega)) rfl ?_
     refine Y (Yields.load_rop_aggV kd25 rfl (Tr.avs_at hk) rfl) rfl ?_
     refine AOps.alloc rfl z25 rfl rfl fun b2 => ?_
     refine AOps.store (j := 0) kd25 rfl rfl rfl rfl rfl rfl ?_
     refine AOps.nil ?_
     refine AWP.seq ?_
     refine AWP.region ?_
     refine Y (Yields.load_ptr_agg (j := 0) kd25 rfl rfl rfl rfl) rfl ?_
     refine AOps.callH (.inl trivial) (ih _ (List.mem_of_getElem? hk) (Tr.bnds_get hk3 hk) (by omega)) rfl rfl rfl (WkL.refl _) ?_
     rintro _ _ ⟨Bc, rfl, rfl⟩
     refine Y (Yields.len_loc sl27 rfl) rfl ?_
     refine Y (mv rfl) rfl ?_
     refine AOps.nil ?_
     refine AWP.block ?_
     refine AWP.loopV (α := Option Nat × List ByteArray × Nat) (fun pp : Option Nat × List ByteArray × Nat => match pp with | (B2, l2, q) => ⟨[(3, .loc B2 0 l2.length l2.length 1), (17, .ro 4 (Tr.avs ks) [] false), (18, int (Tr.avs ks).length), (19, int i), (24, .loc Bc 0 (callsT (Tr.mk ckd cnm ct cks)).length (callsT (Tr.mk ckd cnm ct cks)).length 1), (25, int (callsT (Tr.mk ckd cnm ct cks)).length), (26, int q)], [(Bc, ⟨1, strs (callsT (Tr.mk ckd cnm ct cks))⟩), (B2, ⟨1, strs l2⟩)]⟩) (fun pp : Option Nat × List ByteArray × Nat => match pp with | (B2, l2, q) => q ≤ (callsT (Tr.mk ckd cnm ct cks)).length ∧ l2.length ≤ l.length + q ∧ joinL l2 ((callsT (Tr.mk ckd cnm ct cks)).drop q) = joinL l (callsT (Tr.mk ckd cnm ct cks))) (fun pp : Option Nat × List ByteArray × Nat => match pp with | (B2, l2, q) => (callsT (Tr.mk ckd cnm ct cks)).length - q) ((B, l, 0)) ?_ ?_ ?_
     · exact Leads.keepR (KeepR.cons 0 rfl (KeepR.cons 1 rfl KeepR.nil)) ⟨rfl, rfl, rfl, rfl, rfl, rfl, rfl, trivial⟩
     ·
      show 0 ≤ (callsT (Tr.mk ckd cnm ct cks)).length ∧ l.length ≤ l.length + 0 ∧ joinL l ((callsT (Tr.mk ckd cnm ct cks)).drop 0) = joinL l (callsT (Tr.mk ckd cnm ct cks))
      exact ⟨Nat.zero_le _, by omega, by rw [List.drop_zero]⟩
     ·
      rintro ⟨B2, l2, q⟩ hinv
      replace hinv : q ≤ (callsT (Tr.mk ckd cnm ct cks)).length ∧ l2.length ≤ l.length + q ∧ joinL l2 ((callsT (Tr.mk ckd cnm ct cks)).drop q) = joinL l (callsT (Tr.mk ckd cnm ct cks)) := hinv
      show AWP _ _ _ _ ⟨[(3, .loc B2 0 l2.length l2.length 1), (17, .ro 4 (Tr.avs ks) [] false), (18, int (Tr.avs ks).length), (19, int i), (24, .loc Bc 0 (callsT (Tr.mk ckd cnm ct cks)).length (callsT (Tr.mk ckd cnm ct cks)).length 1), (25, int (callsT (Tr.mk ckd cnm ct cks)).length), (26, int q)], [(Bc, ⟨1, strs (callsT (Tr.mk ckd cnm ct cks))⟩), (B2, ⟨1, strs l2⟩)]⟩
      refine AWP.seq ?_
      refine AWP.region ?_
      obtain ⟨hq, hl2, hjp⟩ := hinv
      refine Y (bn rfl rfl BinR.lss rfl) rfl ?_
      refine AOps.nil ?_
      refine AWP.seq ?_
      refine AWP.condT rfl (fun g2 => ?_) (fun g2 => ?_)
      ·
       replace g2 := of_decide_eq_true g2
       obtain ⟨x, hx, hdx⟩ := drop_at (l := callsT (Tr.mk ckd cnm ct cks)) (i := q) (by omega)
       rw [hdx, joinL] at hjp
       refine AWP.someRow 0 rfl (by intro e; have e := congrArg List.length e; simp [strs] at e; rw [e] at hx; simp at hx) fun bc hsr => ?_
       subst hsr
       refine AWP.skip ?_
       refine AWP.seq ?_
       refine AWP.block ?_
       refine AWP.seq ?_
       refine AWP.region ?_
       refine Y (Yields.idx_locN sl27 rfl rfl (j := q) rfl (by omega)) rfl ?_
       refine Y (Yields.load_ptr_one (j := 0) kd9 rfl rfl (by rw [Nat.zero_add]; exact strs_at hx) rfl rfl) rfl ?_
       refine Y (ass rfl) rfl ?_
       refine AOps.nil ?_
       refine AWP.seq ?_
       refine AWP.region ?_
       refine Y (mv rfl) rfl ?_
       refine Y (mv rfl) rfl ?_
       refine AOps.call (scontains_AF l2 x (by omega)) rfl rfl ⟨bor_strs (j := 1) rfl rfl, Bor.refl rfl, trivial⟩ rfl Free.val ?_
       refine Y (Yields.not rfl) rfl ?_
       refine AOps.nil ?_
       refine AWP.condT rfl (fun g3 => ?_) (fun g3 => ?_)
       ·
        skip
        refine AWP.region ?_
        have g3' : ¬ memB l2 x = true := by simpa using g3
        rw [if_neg g3'] at hjp
        refine Y (mv rfl) rfl ?_
        refine Y (mv rfl) rfl ?_
        refine AOps.buildSlice sl27 z9 rfl rfl rfl rfl rfl fun bs => ?_
        refine AOps.appendE (j := 2) sl27 z9 rfl rfl rfl rfl rfl (by simp [strs]) rfl (src_row (j2 := 0) rfl rfl rfl) (len_app l2 x) (strs_app l2 x) (by simp; omega) (by simp; omega) fun Bn => ?_
        refine Y (ass rfl) rfl ?_
        refine AOps.nil ?_
        refine AWP.region ?_
        refine Y (bn rfl rfl (BinR.addI (by omega) (by omega)) rfl) rfl ?_
        refine Y (mv rfl) rfl ?_
        refine AOps.nil ?_
        refine ⟨(Bn, l2 ++ [x], q + 1), ?_, ?_, ?_⟩
        ·
         show (callsT (Tr.mk ckd cnm ct cks)).length - (q + 1) < (callsT (Tr.mk ckd cnm ct cks)).length - q
         omega
        ·
         show (q + 1) ≤ (callsT (Tr.mk ckd cnm ct cks)).length ∧ (l2 ++ [x]).length ≤ l.length + (q + 1) ∧ joinL (l2 ++ [x]) ((callsT (Tr.mk ckd cnm ct cks)).drop (q + 1)) = joinL l (callsT (Tr.mk ckd cnm ct cks))
         exact ⟨by omega, by simp; omega, hjp⟩
        · exact Leads.keepR (KeepR.cons 1 rfl (KeepR.cons 1 rfl KeepR.nil)) ⟨rfl, rfl, rfl, rfl, rfl, rfl, rfl, trivial⟩
       ·
        skip
        have g3' : memB l2 x = true := by simpa using g3
        rw [if_pos g3'] at hjp
        refine AWP.skip ?_
        refine AWP.region ?_
        refine Y (bn rfl rfl (BinR.addI (by omega) (by omega)) rfl) rfl ?_
        refine Y (mv rfl) rfl ?_
        refine AOps.nil ?_
        refine ⟨(B2, l2, q + 1), ?_, ?_, ?_⟩
        ·
         show (callsT (Tr.mk ckd cnm ct cks)).length - (q + 1) < (callsT (Tr.mk ckd cnm ct cks)).length - q
         omega
        ·
         show (q + 1) ≤ (callsT (Tr.mk ckd cnm ct cks)).length ∧ l2.length ≤ l.length + (q + 1) ∧ joinL l2 ((callsT (Tr.mk ckd cnm ct cks)).drop (q + 1)) = joinL l (callsT (Tr.mk ckd cnm ct cks))
         exact ⟨by omega, by omega, hjp⟩
        · exact Leads.keepR (KeepR.cons 0 rfl (KeepR.cons 0 rfl KeepR.nil)) ⟨rfl, rfl, rfl, rfl, rfl, rfl, rfl, trivial⟩
      ·
       replace g2 := of_decide_eq_false g2
       rw [List.drop_eq_nil_of_le (by omega), joinL] at hjp
       refine AWP.exit ?_
       refine AWP.region ?_
       refine Y (bn rfl rfl (BinR.addI (by omega) (by omega)) rfl) rfl ?_
       refine Y (mv rfl) rfl ?_
       refine AOps.nil ?_
       refine ⟨(B2, l2, i + 1), ?_, ?_, ?_⟩
       ·
        show ks.length - (i + 1) < ks.length - i
        omega
       ·
        show (i + 1) ≤ ks.length ∧ (l2.length : Int) + sizeTs (ks.drop (i + 1)) ≤ 2000000 ∧ callsK (ks.drop (i + 1)) l2 = callsT (.mk kd nm t ks)
        exact ⟨by omega, by omega, by rw [hjp]; exact hp⟩
       · exact Leads.keepR (KeepR.cons 1 rfl KeepR.nil) ⟨rfl, rfl, rfl, rfl, trivial⟩
    ·
     replace g := of_decide_eq_false g
     rw [List.drop_eq_nil_of_le (by omega), callsK] at hp
     refine AWP.exit ?_
     refine AWP.seq ?_
     refine AWP.region ?_
     refine Y (mv rfl) rfl ?_
     refine Y (ass rfl) rfl ?_
     refine AOps.nil ?_
     refine AWP.ret ⟨.inl rfl, ?_⟩
     exact RetH.of (rs := [.tmp 2]) (vs := [_]) rfl ⟨rfl, trivial⟩ (KeepR.cons 0 rfl KeepR.nil) (⟨B, by rw [hp]; rfl, by rw [hp]⟩)
theorem joined_AH (a b : List ByteArray) (B : Option Nat) (hl : a.length + b.length ≤ 4000000) : FnH 67 [(B, ⟨1, strs a⟩)] [.loc B 0 a.length a.length 1, .ro 1 (strs b) [] false] (ownS (joinL a b)) := by
  have hlb := strs_length b
  refine AH.intro Tryz.func67 nm67 rfl rfl rfl fun w0 ok0 own0 => ?_
  refine AWP.seq ?_
  refine AWP.region ?_
  refine Y (ass rfl) rfl ?_
  refine AOps.nil ?_
  refine AWP.seq ?_
  refine AWP.seq ?_
  refine AWP.region ?_
  refine Y (ass rfl) rfl ?_
  refine AOps.nil ?_
  refine AWP.block ?_
  refine AWP.loopV (α := Option Nat × List ByteArray × Nat) (fun pp : Option Nat × List ByteArray × Nat => match pp with | (B, l, i) => ⟨[(0, .loc B 0 l.length l.length 1), (1, .ro 1 (strs b) [] false), (5, int i)], [(B, ⟨1, strs l⟩)]⟩) (fun pp : Option Nat × List ByteArray × Nat => match pp with | (B, l, i) => i ≤ b.length ∧ l.length ≤ a.length + i ∧ joinL l (b.drop i) = joinL a b) (fun pp : Option Nat × List ByteArray × Nat => match pp with | (B, l, i) => b.length - i) ((B, a, 0)) ?_ ?_ ?_
  · exact Leads.keepR (KeepR.cons 0 rfl KeepR.nil) ⟨rfl, rfl, rfl, trivial⟩
  ·
   show 0 ≤ b.length ∧ a.length ≤ a.length + 0 ∧ joinL a (b.drop 0) = joinL a b
   exact ⟨Nat.zero_le _, by omega, by rw [List.drop_zero]⟩
  ·
   rintro ⟨B, l, i⟩ hinv
   replace hinv : i ≤ b.length ∧ l.length ≤ a.length + i ∧ joinL l (b.drop i) = joinL a b := hinv
   show AWP _ _ _ _ ⟨[(0, .loc B 0 l.length l.length 1), (1, .ro 1 (strs b) [] false), (5, int i)], [(B, ⟨1, strs l⟩)]⟩
   refine AWP.seq ?_
   refine AWP.seq ?_
   refine AWP.region ?_
   obtain ⟨hi, hl1, hp⟩ := hinv
   refine Y (mv rfl) rfl ?_
   refine Y (mv rfl) rfl ?_
   refine Y (Yields.len_ro sl27 rfl) rfl ?_
   refine Y (bn rfl rfl BinR.lss rfl) rfl ?_
   refine AOps.nil ?_
   refine AWP.condT rfl (fun g => ?_) (fun g => ?_)
   ·
    replace g := of_decide_eq_true g
    obtain ⟨x, hx, hdx⟩ := drop_at (l := b) (i := i) (by omega)
    rw [hdx, joinL] at hp
    refine AWP.skip ?_
    refine AWP.seq ?_
    refine AWP.block ?_
    refine AWP.seq ?_
    refine AWP.region ?_
    refine Y (mv rfl) rfl ?_
    refine Y (mv rfl) rfl ?_
    refine Y (mv rfl) rfl ?_
    refine Y (Yields.idx_roN sl27 rfl rfl rfl rfl (by omega)) rfl ?_
    refine Y (Yields.load_rop_one kd9 rfl (strs_at hx) rfl) rfl ?_
    refine AOps.call (inTexts_AF l [] false x (by omega)) rfl rfl ⟨bor_strs (j := 0) rfl rfl, Bor.refl rfl, trivial⟩ rfl Free.val ?_
    refine Y (Yields.not rfl) rfl ?_
    refine AOps.nil ?_
    refine AWP.condT rfl (fun g3 => ?_) (fun g3 => ?_)
    ·
     skip
     refine AWP.region ?_
     have g3' : ¬ memB l x = true := by simpa using g3
     rw [if_neg g3'] at hp
     refine Y (mv rfl) rfl ?_
     refine Y (mv rfl) rfl ?_
     refine Y (mv rfl) rfl ?_
     refine Y (Yields.idx_roN sl27 rfl rfl rfl rfl (by omega)) rfl ?_
     refine Y (Yields.load_rop_one kd9 rfl (strs_at hx) rfl) rfl ?_
     refine AOps.buildSlice sl27 z9 rfl rfl rfl rfl rfl fun bs => ?_
     refine AOps.appendE (j := 1) sl27 z9 rfl rfl rfl rfl rfl (by simp [strs]) rfl (src_row (j2 := 0) rfl rfl rfl) (len_app l x) (strs_app l x) (by simp; omega) (by simp; omega) fun Bn => ?_
     refine Y (ass rfl) rfl ?_
     refine AOps.nil ?_
     refine AWP.region ?_
     refine Y (mv rfl) rfl ?_
     refine Y (bn rfl rfl (BinR.addI (by omega) (by omega)) rfl) rfl ?_
     refine Y (ass rfl) rfl ?_
     refine AOps.nil ?_
     refine ⟨(Bn, l ++ [x], i + 1), ?_, ?_, ?_⟩
     ·
      show b.length - (i + 1) < b.length - i
      omega
     ·
      show (i + 1) ≤ b.length ∧ (l ++ [x]).length ≤ a.length + (i + 1) ∧ joinL (l ++ [x]) (b.drop (i + 1)) = joinL a b
      exact ⟨by omega, by simp; omega, hp⟩
     · exact Leads.keepR (KeepR.cons 1 rfl KeepR.nil) ⟨rfl, rfl, rfl, trivial⟩
    ·
     skip
     have g3' : memB l x = true := by simpa using g3
     rw [if_pos g3'] at hp
     refine AWP.skip ?_
     refine AWP.region ?_
     refine Y (mv rfl) rfl ?_
     refine Y (bn rfl rfl (BinR.addI (by omega) (by omega)) rfl) rfl ?_
     refine Y (ass rfl) rfl ?_
     refine AOps.nil ?_
     refine ⟨(B, l, i + 1), ?_, ?_, ?_⟩
     ·
      show b.length - (i + 1) < b.length - i
      omega
     ·
      show (i + 1) ≤ b.length ∧ l.length ≤ a.length + (i + 1) ∧ joinL l (b.drop (i + 1)) = joinL a b
      exact ⟨by omega, by omega, hp⟩
     · exact Leads.keepR (KeepR.cons 0 rfl KeepR.nil) ⟨rfl, rfl, rfl, trivial⟩
   ·
    replace g := of_decide_eq_false g
    rw [List.drop_eq_nil_of_le (by omega), joinL] at hp
    refine AWP.exit ?_
    refine AWP.seq ?_
    refine AWP.region ?_
    refine Y (mv rfl) rfl ?_
    refine Y (ass rfl) rfl ?_
    refine AOps.nil ?_
    refine AWP.ret ⟨.inl rfl, ?_⟩
    exact RetH.of (rs := [.tmp 4]) (vs := [_]) rfl ⟨rfl, trivial⟩ (KeepR.cons 0 rfl KeepR.nil) (⟨B, by rw [hp]; rfl, by rw [hp]⟩)
theorem scalls_AH (k : Tr) : k.bnd 1000000 → sizeT k ≤ 2000000 → FnH 30 [] [k.av] (ownS (callsT k)) := by
  induction k using Tr.ind
  rename_i kd nm t ks ih
  intro hk hz
  simp only [Tr.bnd] at hk
  obtain ⟨hk1, hk2, hk3⟩ := hk
  have hlen := Tr.avs_length ks
  have hz0 := hz
  rw [sizeT] at hz0
  refine AH.intro Tryz.func30 nm30 rfl rfl rfl fun w0 ok0 own0 => ?_
  refine AWP.seq ?_
  refine AWP.region ?_
  refine AOps.box rfl rfl rfl rfl fun b1 => ?_
  refine Y (ass rfl) rfl ?_
  refine AOps.nil ?_
  refine AWP.seq ?_
  refine AWP.region ?_
  refine AOps.buildSlice sl27 z9 rfl rfl rfl rfl rfl fun b0 => ?_
  refine Y (ass rfl) rfl ?_
  refine AOps.nil ?_
  refine AWP.midE (α := Option Nat × List ByteArray) (fun pp : Option Nat × List ByteArray => match pp with | (B, l) => ⟨[(1, .ptr (some b1) 0 0 4), (3, .loc B 0 l.length l.length 1)], [(B, ⟨1, strs l⟩), (some b1, ⟨4, [Tr.av (.mk kd nm t ks)]⟩)]⟩) (fun pp : Option Nat × List ByteArray => match pp with | (B, l) => l = if kd = 4 then [t] else []) ?_ ?_
  ·
   skip
   refine AWP.seq ?_
   refine AWP.region ?_
   refine Y (Yields.fieldAddr_ptr fo25_0 rfl) rfl ?_
   refine Y (Yields.load_ptr_field (j := 1) kd3 rfl rfl rfl rfl rfl rfl rfl) rfl ?_
   refine Y (bn rfl rfl BinR.eql rfl) rfl ?_
   refine AOps.nil ?_
   refine AWP.condT rfl (fun h => ?_) (fun h => ?_)
   ·
    replace h := eq_of_beq h
    refine AWP.region ?_
    refine Y (mv rfl) rfl ?_
    refine Y (Yields.fieldAddr_ptr fo25_2 rfl) rfl ?_
    refine Y (Yields.load_ptr_field (j := 1) kd9 rfl rfl rfl rfl rfl rfl rfl) rfl ?_
    refine AOps.buildSlice sl27 z9 rfl rfl rfl rfl rfl fun bs => ?_
    refine AOps.appendE (j := 1) sl27 z9 rfl rfl rfl rfl rfl rfl rfl (src_row (j2 := 0) rfl rfl rfl) (len_app [] t) (strs_app [] t) (by simp) (by simp) fun Bn => ?_
    refine Y (ass rfl) rfl ?_
    refine AOps.nil ?_
    refine ⟨(Bn, [t]), ?_, ?_⟩
    ·
     show ([t]) = if kd = 4 then [t] else []
     rw [if_pos h]
    · exact Leads.keepR (KeepR.cons 1 rfl (KeepR.cons 1 rfl KeepR.nil)) ⟨rfl, rfl, trivial⟩
   ·
    replace h := ne_of_beq_false h
    refine AWP.skip ?_
    refine ⟨(some b0, []), ?_, ?_⟩
    ·
     show ([]) = if kd = 4 then [t] else []
     rw [if_neg h]
    · exact Leads.keepR (KeepR.cons 0 rfl (KeepR.cons 0 rfl KeepR.nil)) ⟨rfl, rfl, trivial⟩
  ·
   rintro ⟨B, l⟩ hinv
   replace hinv : l = if kd = 4 then [t] else [] := hinv
   show AWP _ _ _ _ ⟨[(1, .ptr (some b1) 0 0 4), (3, .loc B 0 l.length l.length 1)], [(B, ⟨1, strs l⟩), (some b1, ⟨4, [Tr.av (.mk kd nm t ks)]⟩)]⟩
   refine AWP.seq ?_
   refine AWP.seq ?_
   refine AWP.region ?_
   have hl1 : (l.length : Int) ≤ 1 := by rw [hinv]; split <;> simp
   refine Y (ass rfl) rfl ?_
   refine AOps.nil ?_
   refine AWP.block ?_
   refine AWP.loopV (α := Option Nat × List ByteArray × Nat) (fun pp : Option Nat × List ByteArray × Nat => match pp with | (B, l, i) => ⟨[(1, .ptr (some b1) 0 0 4), (3, .loc B 0 l.length l.length 1), (4, int i)], [(B, ⟨1, strs l⟩), (some b1, ⟨4, [Tr.av (.mk kd nm t ks)]⟩)]⟩) (fun pp : Option Nat × List ByteArray × Nat => match pp with | (B, l, i) => i ≤ ks.length ∧ (l.length : Int) + sizeTs (ks.drop i) ≤ 2000000 ∧ callsK (ks.drop i) l = callsT (.mk kd nm t ks)) (fun pp : Option Nat × List ByteArray × Nat => match pp with | (B, l, i) => ks.length - i) ((B, l, 0)) ?_ ?_ ?_
   · exact Leads.keepR (KeepR.cons 0 rfl (KeepR.cons 0 rfl KeepR.nil)) ⟨rfl, rfl, rfl, trivial⟩
   ·
    show 0 ≤ ks.length ∧ (l.length : Int) + sizeTs (ks.drop 0) ≤ 2000000 ∧ callsK (ks.drop 0) l = callsT (.mk kd nm t ks)
    exact ⟨Nat.zero_le _, by rw [List.drop_zero]; omega, by rw [List.drop_zero, callsT, hinv]⟩
   ·
    rintro ⟨B, l, i⟩ hinv
    replace hinv : i ≤ ks.length ∧ (l.length : Int) + sizeTs (ks.drop i) ≤ 2000000 ∧ callsK (ks.drop i) l = callsT (.mk kd nm t ks) := hinv
    show AWP _ _ _ _ ⟨[(1, .ptr (some b1) 0 0 4), (3, .loc B 0 l.length l.length 1), (4, int i)], [(B, ⟨1, strs l⟩), (some b1, ⟨4, [Tr.av (.mk kd nm t ks)]⟩)]⟩
    refine AWP.seq ?_
    refine AWP.seq ?_
    refine AWP.region ?_
    obtain ⟨hi, hm, hp⟩ := hinv
    refine Y (mv rfl) rfl ?_
    refine Y (Yields.fieldAddr_ptr fo25_3 rfl) rfl ?_
    refine Y (Yields.load_ptr_field (j := 1) kd23 rfl rfl rfl rfl rfl rfl rfl) rfl ?_
    refine Y (Yields.len_ro sl23 rfl) rfl ?_
    refine Y (bn rfl rfl BinR.lss rfl) rfl ?_
    refine AOps.nil ?_
    refine AWP.condT rfl (fun g => ?_) (fun g => ?_)
    ·
     replace g := of_decide_eq_true g
     obtain ⟨k, hk, hd⟩ := drop_at (l := ks) (i := i) (by omega)
     rw [hd, callsK] at hp
     rw [hd, sizeTs] at hm
     have hk1 := sizeT_pos k
     have hk2 := sizeTs_pos (ks.drop (i + 1))
     have hlc := callsT_length k
     have hjl := joinL_length (callsT k) l
     refine AWP.skip ?_
     refine AWP.seq ?_
     refine AWP.block ?_
     refine AWP.region ?_
     refine Y (mv rfl) rfl ?_
     refine Y (Yields.fieldAddr_ptr fo25_3 rfl) rfl ?_
     refine Y (Yields.load_ptr_field (j := 1) kd23 rfl rfl rfl rfl rfl rfl rfl) rfl ?_
     refine Y (mv rfl) rfl ?_
     refine Y (Yields.idx_roN sl23 rfl rfl rfl rfl (by omega)) rfl ?_
     refine Y (Yields.load_rop_aggV kd25 rfl (Tr.avs_at hk) (Tr.av_agg k)) rfl ?_
     refine AOps.callH (.inl trivial) (ih k (List.mem_of_getElem? hk) (Tr.bnds_get hk3 hk) (by omega)) rfl rfl rfl (WkL.refl _) ?_
     rintro _ _ ⟨Bc, rfl, rfl⟩
     refine AOps.leads (Leads.pull 1 rfl) ?_
     refine AOps.callHb (.inl trivial) (joined_AH l (callsT k) B (by omega)) rfl rfl rfl ⟨Bor.refl rfl, bor_strs (j := 0) rfl rfl, trivial⟩ (fun r hp' h => ownS.free h) ?_
     rintro _ _ ⟨Bj, rfl, rfl⟩
     refine Y (ass rfl) rfl ?_
     refine AOps.nil ?_
     refine AWP.region ?_
     refine Y (mv rfl) rfl ?_
     refine Y (bn rfl rfl (BinR.addI (by omega) (by omega)) rfl) rfl ?_
     refine Y (ass rfl) rfl ?_
     refine AOps.nil ?_
     refine ⟨(Bj, joinL l (callsT k), i + 1), ?_, ?_, ?_⟩
     ·
      show ks.length - (i + 1) < ks.length - i
      omega
     ·
      show (i + 1) ≤ ks.length ∧ ((joinL l (callsT k)).length : Int) + sizeTs (ks.drop (i + 1)) ≤ 2000000 ∧ callsK (ks.drop (i + 1)) (joinL l (callsT k)) = callsT (.mk kd nm t ks)
      exact ⟨by omega, by omega, hp⟩
     · exact Leads.keepR (KeepR.cons 0 rfl (KeepR.cons 1 rfl KeepR.nil)) ⟨rfl, rfl, rfl, trivial⟩
    ·
     replace g := of_decide_eq_false g
     rw [List.drop_eq_nil_of_le (by omega), callsK] at hp
     refine AWP.exit ?_
     refine AWP.seq ?_
     refine AWP.region ?_
     refine Y (mv rfl) rfl ?_
     refine Y (ass rfl) rfl ?_
     refine AOps.nil ?_
     refine AWP.ret ⟨.inl rfl, ?_⟩
     exact RetH.of (rs := [.tmp 2]) (vs := [_]) rfl ⟨rfl, trivial⟩ (KeepR.cons 0 rfl KeepR.nil) (⟨B, by rw [hp]; rfl, by rw [hp]⟩)
def callsE (k : Tr) : List ByteArray := if okE k = true then callsT k else []
theorem iExprCalls_AH (k : Tr) (hk : k.bnd 1000000) (hz : sizeT k ≤ 2000000) : FnH 7 [] [k.av] (ownS (callsE k)) := by
  obtain ⟨kd, nm, t, ks⟩ := k
  refine AH.intro Tryz.func7 nm7 rfl rfl rfl fun w0 ok0 own0 => ?_
  refine AWP.seq ?_
  refine AWP.region ?_
  refine AOps.box rfl rfl rfl rfl fun b1 => ?_
  refine Y (ass rfl) rfl ?_
  refine AOps.nil ?_
  refine AWP.seq ?_
  refine AWP.seq ?_
  refine AWP.region ?_
  refine Y (Yields.load_ptr_agg (j := 0) kd25 rfl rfl rfl rfl) rfl ?_
  refine AOps.callro (iExprOk_AF' (.mk kd nm t ks) hk) rfl rfl rfl ?_
  refine Y (Yields.not rfl) rfl ?_
  refine AOps.nil ?_
  refine AWP.condT rfl (fun h => ?_) (fun h => ?_)
  ·
   skip
   refine AWP.seq ?_
   refine AWP.region ?_
   have h : ¬ okE (.mk kd nm t ks) = true := by simpa using h
   refine Y (ass rfl) rfl ?_
   refine AOps.nil ?_
   refine AWP.leads (Leads.own0 2 1 rfl) ?_
   refine AWP.ret ⟨.inl rfl, ?_⟩
   exact RetH.of (rs := [.tmp 2]) (vs := [_]) rfl ⟨rfl, trivial⟩ (KeepR.cons 0 rfl KeepR.nil) (⟨none, by rw [callsE, if_neg h]; rfl, by rw [callsE, if_neg h]; rfl⟩)
  ·
   skip
   have h : okE (.mk kd nm t ks) = true := by simpa using h
   refine AWP.skip ?_
   refine AWP.seq ?_
   refine AWP.region ?_
   refine Y (Yields.load_ptr_agg (j := 0) kd25 rfl rfl rfl rfl) rfl ?_
   refine AOps.callH (.inl trivial) (icalls_AH (.mk kd nm t ks) hk hz) rfl rfl rfl (WkL.refl _) ?_
   rintro _ _ ⟨Bc, rfl, rfl⟩
   refine Y (ass rfl) rfl ?_
   refine AOps.nil ?_
   refine AWP.ret ⟨.inl rfl, ?_⟩
   exact RetH.of (rs := [.tmp 2]) (vs := [_]) rfl ⟨rfl, trivial⟩ (KeepR.cons 0 rfl KeepR.nil) (⟨Bc, by rw [callsE, if_pos h]; rfl, by rw [callsE, if_pos h]⟩)
theorem sExprCalls_AH (k : Tr) (hk : k.bnd 1000000) (hz : sizeT k ≤ 2000000) : FnH 8 [] [k.av] (ownS (callsE k)) := by
  obtain ⟨kd, nm, t, ks⟩ := k
  refine AH.intro Tryz.func8 nm8 rfl rfl rfl fun w0 ok0 own0 => ?_
  refine AWP.seq ?_
  refine AWP.region ?_
  refine AOps.box rfl rfl rfl rfl fun b1 => ?_
  refine Y (ass rfl) rfl ?_
  refine AOps.nil ?_
  refine AWP.seq ?_
  refine AWP.seq ?_
  refine AWP.region ?_
  refine Y (Yields.load_ptr_agg (j := 0) kd25 rfl rfl rfl rfl) rfl ?_
  refine AOps.callro (sExprOk_AF (.mk kd nm t ks) hk hz) rfl rfl rfl ?_
  refine Y (Yields.not rfl) rfl ?_
  refine AOps.nil ?_
  refine AWP.condT rfl (fun h => ?_) (fun h => ?_)
  ·
   skip
   refine AWP.seq ?_
   refine AWP.region ?_
   have h : ¬ okE (.mk kd nm t ks) = true := by simpa using h
   refine Y (ass rfl) rfl ?_
   refine AOps.nil ?_
   refine AWP.leads (Leads.own0 2 1 rfl) ?_
   refine AWP.ret ⟨.inl rfl, ?_⟩
   exact RetH.of (rs := [.tmp 2]) (vs := [_]) rfl ⟨rfl, trivial⟩ (KeepR.cons 0 rfl KeepR.nil) (⟨none, by rw [callsE, if_neg h]; rfl, by rw [callsE, if_neg h]; rfl⟩)
  ·
   skip
   have h : okE (.mk kd nm t ks) = true := by simpa using h
   refine AWP.skip ?_
   refine AWP.seq ?_
   refine AWP.region ?_
   refine Y (Yields.load_ptr_agg (j := 0) kd25 rfl rfl rfl rfl) rfl ?_
   refine AOps.callH (.inl trivial) (scalls_AH (.mk kd nm t ks) hk hz) rfl rfl rfl (WkL.refl _) ?_
   rintro _ _ ⟨Bc, rfl, rfl⟩
   refine Y (ass rfl) rfl ?_
   refine AOps.nil ?_
   refine AWP.ret ⟨.inl rfl, ?_⟩
   exact RetH.of (rs := [.tmp 2]) (vs := [_]) rfl ⟨rfl, trivial⟩ (KeepR.cons 0 rfl KeepR.nil) (⟨Bc, by rw [callsE, if_pos h]; rfl, by rw [callsE, if_pos h]⟩)
theorem sExprCalls_AF (k : Tr) (hk : k.bnd 1000000) (hz : sizeT k ≤ 2000000) : Fn 8 [k.av] (.ro 1 (strs (callsE k)) [] false) :=
  AH.toF (by simp [plainL, Tr.plain_av]) (sExprCalls_AH k hk hz) (fun r hp' h => ownS.fz h)
theorem iExprCalls_AF (k : Tr) (hk : k.bnd 1000000) (hz : sizeT k ≤ 2000000) : Fn 7 [k.av] (.ro 1 (strs (callsE k)) [] false) :=
  AH.toF (by simp [plainL, Tr.plain_av]) (iExprCalls_AH k hk hz) (fun r hp' h => ownS.fz h)
end Go.Proofs.YteieleejhbljfaaGreat
