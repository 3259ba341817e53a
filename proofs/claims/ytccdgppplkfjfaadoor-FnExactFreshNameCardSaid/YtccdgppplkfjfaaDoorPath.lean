/- What is at a path; copies; another expression put at a path. -/
import Derived.Test.YtccdgppplkfjfaaDoorInts
import Derived.Test.YtccdgppplkfjfaaDoorLike
namespace Go.Proofs.YtccdgppplkfjfaaDoor
open Go Go.Ax Go.Proofs
set_option linter.unusedVariables false
set_option linter.unusedSimpArgs false
set_option maxRecDepth 20000
def nilTr : Tr := .mk 0 0 ⟨#[]⟩ []
def atT : Tr → List Int → Option Tr
  | k, [] => some k
  | .mk _ _ _ ks, i :: p => if 0 ≤ i ∧ i < ks.length then (match ks[i.toNat]? with | some x => atT x p | none => none) else none
theorem atT_bad {k n : Int} {t : ByteArray} {ks : List Tr} {i : Int} {p : List Int} (h : ¬ (0 ≤ i ∧ i < ks.length)) : atT (.mk k n t ks) (i :: p) = none := by rw [atT, if_neg h]
theorem atT_step {k n : Int} {t : ByteArray} {ks : List Tr} {i : Int} {p : List Int} {x : Tr} (h : 0 ≤ i ∧ i < ks.length) (hx : ks[i.toNat]? = some x) : atT (.mk k n t ks) (i :: p) = atT x p := by rw [atT, if_pos h, hx]
def atV (k : Tr) (p : List Int) : Tr := (atT k p).getD nilTr
theorem atV_bnd {N : Nat} : ∀ (p : List Int) (k : Tr), k.bnd N → ∀ x, atT k p = some x → x.bnd N
  | [], k, h, x, hx => by rw [atT] at hx; cases hx; exact h
  | i :: p, .mk a b c ks, h, x, hx => by
    rw [atT] at hx
    split at hx
    · split at hx
      · rename_i y hy; exact atV_bnd p y (Tr.bnds_get h.2.2 hy) x hx
      · cases hx
    · cases hx
def roTB (k : Tr) (b : Bool) : AV → Hp → Prop := fun r hp' => r = .tup [k.av, bool b] ∧ hp' = []
theorem avXs_take (l : List Tr) {i : Nat} {k : Tr} (h : l[i]? = some k) : Tr.avXs Tr.nosp (l.take i) ++ [k.avX Tr.nosp] = Tr.avXs Tr.nosp (l.take (i + 1)) := by
  rw [List.take_add_one, h, Tr.avXs_append]; rfl
def putT : Tr → List Int → Tr → Tr
  | _, [], x => x
  | .mk a b c ks, i :: p, x => .mk a b c (ks.set i.toNat (match ks[i.toNat]? with | some y => putT y p x | none => nilTr))
theorem putT_step {a b : Int} {c : ByteArray} {ks : List Tr} {i : Int} {p : List Int} {x y : Tr} (h : ks[i.toNat]? = some y) : putT (.mk a b c ks) (i :: p) x = .mk a b c (ks.set i.toNat (putT y p x)) := by rw [putT, h]
theorem at_cons {a b : Int} {c : ByteArray} {ks : List Tr} {i : Int} {p : List Int} (h : (atT (.mk a b c ks) (i :: p)).isSome = true) : 0 ≤ i ∧ i < ks.length ∧ ∃ y, ks[i.toNat]? = some y ∧ (atT y p).isSome = true := by
  rw [atT] at h
  split at h
  · rename_i hh
    obtain ⟨y, hy, _⟩ := drop_at (l := ks) (i := i.toNat) (by omega)
    rw [hy] at h
    exact ⟨hh.1, hh.2, y, hy, h⟩
  · cases h
theorem avXs_set (l : List Tr) (i : Nat) (k : Tr) : Tr.avXs Tr.nosp (l.set i k) = (Tr.avXs Tr.nosp l).set i (k.avX Tr.nosp) := by
  induction l generalizing i with
  | nil => rfl
  | cons a l ih =>
    cases i with
    | zero => rfl
    | succ i => simp [Tr.avXs, ih]
theorem cut_ints (i : Int) (p : List Int) : ((ints (i :: p) ++ []).drop 1).take ((ints (i :: p)).length - 1) = ints p := by
  simp [ints]; exact List.take_of_length_le (by simp)
end Go.Proofs.YtccdgppplkfjfaaDoor
