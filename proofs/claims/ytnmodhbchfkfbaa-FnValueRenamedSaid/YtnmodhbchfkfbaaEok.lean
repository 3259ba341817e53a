/- Expressions that are ones: ExprOk and ExprSize of both programs. -/
import Derived.Test.YtnmodhbchfkfbaaVok
namespace Go.Proofs.Ytnmodhbchfkfbaa
open Go Go.Ax Go.Proofs
set_option linter.unusedVariables false
set_option linter.unusedSimpArgs false
set_option maxRecDepth 20000

/-! ### texts among texts -/
/-! ### the shape of an expression -/
def opB : List ByteArray := [⟨#[43]⟩, ⟨#[45]⟩, ⟨#[42]⟩, ⟨#[60]⟩, ⟨#[61, 61]⟩, ⟨#[38]⟩, ⟨#[124]⟩]
def shapeV (k nm : Int) (t : ByteArray) (n : Int) : Bool :=
  if k = 0 then inR nm 0 9999 && (decide (t = ⟨#[]⟩) && decide (n = 0))
  else if k = 1 then inR nm 0 1 && (decide (t = ⟨#[]⟩) && decide (n = 0))
  else decide (nm = 0) && (
    if k = 2 then isWordL t.data.toList && decide (n = 0)
    else if k = 3 then isNameL t.data.toList && decide (n = 0)
    else if k = 4 then isNameL t.data.toList && decide (n ≤ 4)
    else if k = 5 then isNameL t.data.toList && (decide (1 ≤ n) && decide (n ≤ 4))
    else if k = 6 then isNameL t.data.toList && decide (n = 1)
    else if k = 7 then typeOkL t.data.toList && (typeOkL (listT t).data.toList && decide (n ≤ 4))
    else if k = 8 ∨ k = 13 ∨ k = 15 then decide (t = ⟨#[]⟩) && decide (n = 1)
    else if k = 9 then memB opB t && decide (n = 2)
    else if k = 10 then decide (t = ⟨#[]⟩) && decide (n = 3)
    else if k = 11 ∨ k = 12 then isNameL t.data.toList && decide (n = 2)
    else if k = 14 then decide (t = ⟨#[]⟩) && decide (n = 2)
    else false)

/-! ### an expression with its parts, counted -/
mutual
def fitsT : Tr → Int → Int → Bool × Int
  | .mk k nm t ks, n, tall => if 40 < n + 1 ∨ 9 < tall ∨ shapeV k nm t ks.length = false then (false, n + 1) else fitsL ks (n + 1) (tall + 1)
def fitsL : List Tr → Int → Int → Bool × Int
  | [], n, _ => (true, n)
  | k :: ks, n, tall => if (fitsT k n tall).1 = false then (false, (fitsT k n tall).2) else fitsL ks (fitsT k n tall).2 tall
end
mutual
theorem fitsT_le : ∀ (k : Tr) (n tall : Int), 0 ≤ n → n ≤ 40 → 0 ≤ (fitsT k n tall).2 ∧ ((fitsT k n tall).1 = true → (fitsT k n tall).2 ≤ 40)
  | .mk k nm t ks, n, tall, h0, h1 => by
    rw [fitsT]
    split
    · exact ⟨by show 0 ≤ n + 1; omega, fun h => by cases h⟩
    · rename_i hc
      exact fitsL_le ks (n + 1) (tall + 1) (by omega) (by omega)
theorem fitsL_le : ∀ (ks : List Tr) (n tall : Int), 0 ≤ n → n ≤ 40 → 0 ≤ (fitsL ks n tall).2 ∧ ((fitsL ks n tall).1 = true → (fitsL ks n tall).2 ≤ 40)
  | [], n, tall, h0, h1 => by rw [fitsL]; exact ⟨h0, fun _ => h1⟩
  | k :: ks, n, tall, h0, h1 => by
    have hk := fitsT_le k n tall h0 h1
    rw [fitsL]
    split
    · exact ⟨hk.1, fun h => by cases h⟩
    · rename_i hc
      exact fitsL_le ks _ tall hk.1 (hk.2 (by simpa using hc))
end
/-! ### the reference model's way -/
def textV (k : Int) (t : ByteArray) : Bool :=
  if k = 2 then isWordL t.data.toList
  else if k = 3 ∨ k = 4 ∨ k = 5 ∨ k = 6 ∨ k = 11 ∨ k = 12 then isNameL t.data.toList
  else if k = 7 then typeOkL (listT t).data.toList
  else if k = 9 then memB opB t
  else decide (t = ⟨#[]⟩)
def lowV (k : Int) : Int := if k = 5 ∨ k = 6 ∨ k = 8 ∨ k = 13 ∨ k = 15 then 1 else if k = 9 ∨ k = 11 ∨ k = 12 ∨ k = 14 then 2 else if k = 10 then 3 else 0
def highV (k : Int) : Int := if k = 4 ∨ k = 7 ∨ k = 5 then 4 else lowV k
def mostV (k : Int) : Int := if k = 0 then 9999 else if k = 1 then 1 else 0
mutual
def validS : Tr → Int → Bool
  | .mk k nm t ks, d => if d = 0 ∨ inR k 0 15 = false ∨ textV k t = false ∨ inR nm 0 (mostV k) = false ∨ inR ks.length (lowV k) (highV k) = false then false else validSs ks (d - 1)
def validSs : List Tr → Int → Bool
  | [], _ => true
  | k :: ks, d => validS k d && validSs ks d
end
/-! ### how many -/
mutual
def sizeT : Tr → Int
  | .mk _ _ _ ks => 1 + sizeTs ks
def sizeTs : List Tr → Int
  | [] => 0
  | k :: ks => sizeT k + sizeTs ks
end
mutual
theorem sizeT_pos : ∀ k : Tr, 1 ≤ sizeT k
  | .mk _ _ _ ks => by rw [sizeT]; have := sizeTs_pos ks; omega
theorem sizeTs_pos : ∀ ks : List Tr, 0 ≤ sizeTs ks
  | [] => by rw [sizeTs]; omega
  | k :: ks => by rw [sizeTs]; have := sizeT_pos k; have := sizeTs_pos ks; omega
end
mutual
theorem sizeT_sz : ∀ (k : Tr) (left : Int), 0 ≤ left → 0 ≤ szV k left → sizeT k + szV k left ≤ left + 1
  | .mk k n t ks, left, h0, h => by
    rw [sizeT]
    rw [szV] at h ⊢
    split at h
    · omega
    · rename_i h1
      rw [if_neg h1]
      split at h
      · omega
      · rename_i h2
        rw [if_neg h2]
        have := sizeTs_sz ks _ (by omega) h
        omega
theorem sizeTs_sz : ∀ (ks : List Tr) (left : Int), 0 ≤ left → 0 ≤ szL ks left → sizeTs ks + szL ks left ≤ left + ks.length
  | [], left, h0, h => by rw [sizeTs, szL]; simp
  | k :: ks, left, h0, h => by
    rw [sizeTs]
    rw [szL] at h ⊢
    split at h
    · omega
    · rename_i h1
      rw [if_neg h1]
      have := sizeT_sz k left h0 (by omega)
      have := sizeTs_sz ks _ (by omega) h
      simp only [List.length_cons]
      omega
end
theorem sizeTs_drop {ks : List Tr} : ∀ i : Nat, 0 ≤ sizeTs (ks.drop i) := fun i => sizeTs_pos _
end Go.Proofs.Ytnmodhbchfkfbaa
