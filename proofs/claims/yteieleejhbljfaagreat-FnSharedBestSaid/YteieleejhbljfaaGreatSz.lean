/- How great a tree is: szValue, szValueS. -/
import Derived.Test.YteieleejhbljfaaGreatTree
import Derived.Test.YteieleejhbljfaaGreatBase
namespace Go.Proofs.YteieleejhbljfaaGreat
open Go Go.Ax Go.Proofs
set_option linter.unusedVariables false

mutual
def szV : Tr → Int → Int
  | .mk k n t ks, left => if left - t.size < 0 then -1 else if left - t.size - ks.length < 0 then -1 else szL ks (left - t.size - ks.length)
def szL : List Tr → Int → Int
  | [], left => left
  | k :: ks, left => if szV k left < 0 then -1 else szL ks (szV k left)
end
def szVs (ks : List Tr) (left : Int) : Int := if left - ks.length < 0 then -1 else szL ks (left - ks.length)
theorem szV_eq (k n : Int) (t : ByteArray) (ks : List Tr) (left : Int) : szV (.mk k n t ks) left = if left - t.size < 0 then -1 else szVs ks (left - t.size) := by
  rw [szV, szVs]
mutual
theorem szV_le : ∀ (k : Tr) (left : Int), 0 ≤ left → szV k left ≤ left
  | .mk k n t ks, left, h => by
    rw [szV]
    split
    · omega
    · split
      · omega
      · have := szL_le ks (left - t.size - ks.length) (by omega); omega
theorem szL_le : ∀ (ks : List Tr) (left : Int), 0 ≤ left → szL ks left ≤ left
  | [], left, h => by rw [szL]; omega
  | k :: ks, left, h => by
    rw [szL]
    split
    · omega
    · have h1 := szV_le k left h
      have h2 := szL_le ks (szV k left) (by omega)
      omega
end

theorem szL_neg : ∀ (ks : List Tr) (left : Int), 0 ≤ left → szL ks left < 0 → szL ks left = -1
  | [], left, h, hn => by rw [szL] at hn; omega
  | k :: ks, left, h, hn => by
    rw [szL] at hn ⊢
    split
    · rfl
    · rename_i h1; rw [if_neg h1] at hn; exact szL_neg ks _ (by omega) hn
theorem szVs_neg {ks : List Tr} {left : Int} (hn : szVs ks left < 0) : szVs ks left = -1 := by
  unfold szVs at hn ⊢
  split
  · rfl
  · rename_i h1; rw [if_neg h1] at hn; exact szL_neg ks _ (by omega) hn


mutual
theorem szV_bnd : ∀ (k : Tr) (left : Int), 0 ≤ left → left ≤ 1000000 → 0 ≤ szV k left → k.bnd 1000000
  | .mk k n t ks, left, h0, h1, h => by
    rw [szV] at h
    split at h
    · omega
    · split at h
      · omega
      · exact ⟨by omega, by omega, szL_bnd ks _ (by omega) (by omega) h⟩
theorem szL_bnd : ∀ (ks : List Tr) (left : Int), 0 ≤ left → left ≤ 1000000 → 0 ≤ szL ks left → Tr.bnds 1000000 ks
  | [], left, h0, h1, h => trivial
  | k :: ks, left, h0, h1, h => by
    rw [szL] at h
    split at h
    · omega
    · have := szV_le k left h0
      exact ⟨szV_bnd k left h0 h1 (by omega), szL_bnd ks _ (by omega) (by omega) h⟩
end
end Go.Proofs.YteieleejhbljfaaGreat
