/- ExprAt, ExprPut, LocalsAt. -/
import Derived.Test.YtccdgppplkfjfaaDoorPath
import Derived.Test.YtccdgppplkfjfaaDoorHeld
import Derived.Test.YtccdgppplkfjfaaDoorCalls
namespace Go.Proofs.YtccdgppplkfjfaaDoor
open Go Go.Ax Go.Proofs
set_option linter.unusedVariables false
set_option linter.unusedSimpArgs false
set_option maxRecDepth 20000
def ownTP (k : Tr) (b : Bool) : AV → Hp → Prop := fun r hp' => ∃ B : Option Nat, r = .tup [openT B k, bool b] ∧ hp' = [(B, ⟨4, Tr.avXs Tr.nosp k.kids⟩)]
theorem ownTP.fz {k : Tr} {b : Bool} {r : AV} {hp' : Hp} (h : ownTP k b r hp') : Fz hp' r (.tup [k.av, bool b]) := by
  obtain ⟨B, rfl, rfl⟩ := h
  exact Fz.tup ⟨(bor_avT (j := 0) k rfl).fz, Fz.refl, trivial⟩
theorem ownTP.free {k : Tr} {b : Bool} {r : AV} {hp' : Hp} (h : ownTP k b r hp') : Free r ∧ ∀ B row, (B, row) ∈ hp' → FreeL row.xs := by
  obtain ⟨B, rfl, rfl⟩ := h
  obtain ⟨h1, h2⟩ := ownT.free (k := k) ⟨B, rfl, rfl⟩
  exact ⟨Free.tup ⟨h1, Free.val, trivial⟩, h2⟩
def atB (k : Tr) (p : List Int) : Bool := okE k && (atT k p).isSome
def atE (k : Tr) (p : List Int) : Tr := if atB k p = true then atV k p else nilTr
theorem atE_no {k : Tr} {p : List Int} (h : atB k p = false) : atE k p = nilTr := if_neg (by rw [h]; simp)
theorem atV_bnd' {N : Nat} (k : Tr) (p : List Int) (hk : k.bnd N) : (atV k p).bnd N := by
  unfold atV
  cases h : atT k p with
  | none => simp [nilTr, Tr.bnd, Tr.bnds, ByteArray.size]
  | some x => exact atV_bnd p k hk x h
theorem sizeTs_set : ∀ (l : List Tr) (i : Nat) (y : Tr) (z : Tr), l[i]? = some y → sizeTs (l.set i z) = sizeTs l - sizeT y + sizeT z
  | [], i, y, z, h => by simp at h
  | a :: l, 0, y, z, h => by simp at h; subst h; simp [sizeTs]; omega
  | a :: l, i + 1, y, z, h => by
    simp only [List.getElem?_cons_succ] at h
    simp only [List.set_cons_succ, sizeTs, sizeTs_set l i y z h]; omega
theorem putT_size (x : Tr) : ∀ (p : List Int) (k : Tr), (atT k p).isSome = true → sizeT (putT k p x) ≤ sizeT k + sizeT x
  | [], k, h => by rw [putT]; have := sizeT_pos k; omega
  | i :: p, .mk a b c ks, h => by
    obtain ⟨h0, h1, y, hy, hys⟩ := at_cons h
    rw [putT_step hy, sizeT, sizeT, sizeTs_set ks _ y _ hy]
    have := putT_size x p y hys
    omega
theorem bnds_set {N : Nat} : ∀ (l : List Tr) (i : Nat) (z : Tr), Tr.bnds N l → z.bnd N → Tr.bnds N (l.set i z)
  | [], i, z, h, hz => h
  | a :: l, 0, z, h, hz => ⟨hz, h.2⟩
  | a :: l, i + 1, z, h, hz => ⟨h.1, bnds_set l i z h.2 hz⟩
theorem putT_bnd {N : Nat} (x : Tr) (hx : x.bnd N) : ∀ (p : List Int) (k : Tr), k.bnd N → (atT k p).isSome = true → (putT k p x).bnd N
  | [], k, hk, h => by rw [putT]; exact hx
  | i :: p, .mk a b c ks, hk, h => by
    obtain ⟨h0, h1, y, hy, hys⟩ := at_cons h
    rw [putT_step hy]
    exact ⟨hk.1, by rw [List.length_set]; exact hk.2.1, bnds_set ks _ _ hk.2.2 (putT_bnd x hx p y (Tr.bnds_get hk.2.2 hy) hys)⟩
def putB (k : Tr) (p : List Int) (x : Tr) : Bool := okE k && (okE x && ((atT k p).isSome && okE (putT k p x)))
def putE (k : Tr) (p : List Int) (x : Tr) : Tr := if putB k p x = true then putT k p x else nilTr
theorem putE_no {k x : Tr} {p : List Int} (h : putB k p x = false) : putE k p x = nilTr := if_neg (by rw [h]; simp)
theorem putE_facts (k x : Tr) (p : List Int) (hk : k.bnd 1000000) (hx : x.bnd 1000000) : (putE k p x).bnd 1000000 ∧ sizeT (putE k p x) ≤ 40 := by
  unfold putE
  split
  · rename_i h
    simp only [putB, okE, Bool.and_eq_true, decide_eq_true_eq] at h
    exact ⟨putT_bnd x hx p k hk h.2.2.1, h.2.2.2.2⟩
  · exact ⟨by simp [nilTr, Tr.bnd, Tr.bnds, ByteArray.size], by simp [nilTr, sizeT, sizeTs]⟩
theorem atT_size : ∀ (p : List Int) (k x : Tr), atT k p = some x → sizeT x ≤ sizeT k
  | [], k, x, h => by rw [atT] at h; cases h; omega
  | i :: p, .mk a b c ks, x, h => by
    rw [atT] at h
    split at h
    · split at h
      · rename_i y hy
        have := atT_size p y x h
        have h2 := sizeTs_set ks _ y (.mk 0 0 ⟨#[]⟩ []) hy
        have h3 := sizeTs_pos (ks.set i.toNat (.mk 0 0 ⟨#[]⟩ []))
        rw [sizeT]
        have h4 : sizeT (.mk 0 0 ⟨#[]⟩ []) = 1 := by simp [sizeT, sizeTs]
        omega
      · cases h
    · cases h
theorem atE_size (k : Tr) (p : List Int) : sizeT (atE k p) ≤ sizeT k := by
  have h0 : sizeT nilTr = 1 := by simp [nilTr, sizeT, sizeTs]
  have h1 := sizeT_pos k
  unfold atE
  split
  · unfold atV
    cases h : atT k p with
    | none => simp [h0]; omega
    | some x => exact atT_size p k x h
  · omega
theorem atE_facts (k : Tr) (p : List Int) (hk : k.bnd 1000000) : (atE k p).bnd 1000000 := by
  unfold atE
  split
  · exact atV_bnd' k p hk
  · simp [nilTr, Tr.bnd, Tr.bnds, ByteArray.size]
def locT : Tr → List Int → List ByteArray
  | _, [] => []
  | .mk k _ t ks, i :: p => (if bindsB k = true ∧ i = 1 then [t] else []) ++ (match ks[i.toNat]? with | some y => locT y p | none => [])
theorem locT_step {k n : Int} {t : ByteArray} {ks : List Tr} {i : Int} {p : List Int} {y : Tr} (h : ks[i.toNat]? = some y) : locT (.mk k n t ks) (i :: p) = (if bindsB k = true ∧ i = 1 then [t] else []) ++ locT y p := by rw [locT, h]
theorem locT_length : ∀ (p : List Int) (k : Tr), (locT k p).length ≤ p.length
  | [], k => by rw [locT]; simp
  | i :: p, .mk a b c ks => by
    rw [locT, List.length_append]
    have h1 : (if bindsB a = true ∧ i = 1 then [c] else []).length ≤ 1 := by split <;> simp
    have h2 : (match ks[i.toNat]? with | some y => locT y p | none => []).length ≤ p.length := by
      split
      · exact locT_length p _
      · simp
    simp only [List.length_cons]; omega
def locE (k : Tr) (p : List Int) : List ByteArray := if atB k p = true then locT k p else []
theorem locE_no {k : Tr} {p : List Int} (h : atB k p = false) : locE k p = [] := if_neg (by rw [h]; simp)
theorem locE_length (k : Tr) (p : List Int) : (locE k p).length ≤ p.length := by
  unfold locE
  split
  · exact locT_length p k
  · simp
end Go.Proofs.YtccdgppplkfjfaaDoor
