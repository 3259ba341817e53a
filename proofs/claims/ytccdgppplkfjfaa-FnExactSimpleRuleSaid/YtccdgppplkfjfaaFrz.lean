/- What is frozen; free names that are only read. -/
import Derived.Test.YtccdgppplkfjfaaFree
namespace Go.Proofs.Ytccdgppplkfjfaa
open Go Go.Ax Go.Proofs
set_option linter.unusedVariables false
set_option linter.unusedSimpArgs false
set_option maxRecDepth 20000
theorem trElim' (k : Tr) {G : Prop} (h : ∀ a b c ks, k = .mk a b c ks → G) : G := by
  obtain ⟨a, b, c, ks⟩ := k
  exact h a b c ks rfl
def isV' (v : AV) : AV → Hp → Prop := fun r hp' => r = v ∧ hp' = []
theorem isV'.fz {v r : AV} {hp' : Hp} (hv : plainV v = true) (h : isV' v r hp') : Fz hp' r v := by
  obtain ⟨rfl, rfl⟩ := h
  exact (Bor.refl hv).fz
theorem ifree_AF (k : Tr) (hk : k.bnd 1000000) (hz : sizeT k ≤ 2000000) (d : Int) (hd : 0 ≤ d) (hd2 : d ≤ 100) (hv : validS k d = true) : Fn 53 [k.av] (.ro 1 (strs (freeT k)) [] false) :=
  AH.toF (by simp [plainL, plainV, Tr.plain_av]) (ifree_AH k hk hz d hd hd2 hv) (fun r hp' h => ownS.fz h)
theorem sfreeR_AF (k : Tr) (hk : k.bnd 1000000) (hz : sizeT k ≤ 2000000) : Fn 52 [k.av] (.ro 1 (strs (freeT k)) [] false) :=
  AH.toF (by simp [plainL, plainV, Tr.plain_av]) (sfree_AH k hk hz) (fun r hp' h => ownS.fz h)
theorem size1 (k n : Int) (t : ByteArray) (x : Tr) : sizeT (.mk k n t [x]) = 1 + sizeT x := by rw [sizeT, sizeTs, sizeTs]; omega
theorem size2 (k n : Int) (t : ByteArray) (x y : Tr) : sizeT (.mk k n t [x, y]) = 1 + sizeT x + sizeT y := by rw [sizeT, sizeTs, sizeTs, sizeTs]; omega
theorem size3 (k n : Int) (t : ByteArray) (x y z : Tr) : sizeT (.mk k n t [x, y, z]) = 1 + sizeT x + sizeT y + sizeT z := by rw [sizeT, sizeTs, sizeTs, sizeTs, sizeTs]; omega
end Go.Proofs.Ytccdgppplkfjfaa
