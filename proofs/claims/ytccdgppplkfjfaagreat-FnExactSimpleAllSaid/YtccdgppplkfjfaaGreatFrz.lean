/- What is frozen; free names that are only read. -/
import Derived.Test.YtccdgppplkfjfaaGreatFree
namespace Go.Proofs.YtccdgppplkfjfaaGreat
open Go Go.Ax Go.Proofs
set_option linter.unusedVariables false
set_option linter.unusedSimpArgs false
set_option maxRecDepth 20000
theorem trElim' (k : Tr) {G : Prop} (h : ∀ a b c ks, k = .mk a b c ks → G) : G := by
  obtain ⟨a, b, c, ks⟩ := k
  exact h a b c ks rfl
def isV' (v : AV) : AV → Hp → Prop := fun r hp' => r = v ∧ hp' = []
theorem isV'.fz {v r : AV} {hp' : Hp} (hv : plainV v = true) (h : isV' v r hp') : Fz hp' r v := by
  obtain ⟨rfl, rfl⟩ := h
  exact (Bor.refl hv).fz
theorem ifree_AF (k : Tr) (hk : k.bnd 1000000) (hz : sizeT k ≤ 2000000) (d : Int) (hd : 0 ≤ d) (hd2 : d ≤ 100) (hv : validS k d = true) : Fn 72 [k.av] (.ro 1 (strs (freeT k)) [] false) :=
  AH.toF (by simp [plainL, plainV, Tr.plain_av]) (ifree_AH k hk hz d hd hd2 hv) (fun r hp' h => ownS.fz h)
theorem sfreeR_AF (k : Tr) (hk : k.bnd 1000000) (hz : sizeT k ≤ 2000000) : Fn 39 [k.av] (.ro 1 (strs (freeT k)) [] false) :=
  AH.toF (by simp [plainL, plainV, Tr.plain_av]) (sfree_AH k hk hz) (fun r hp' h => ownS.fz h)
theorem size1 (k n : Int) (t : ByteArray) (x : Tr) : sizeT (.mk k n t [x]) = 1 + sizeT x := by rw [sizeT, sizeTs, sizeTs]; omega
theorem size2 (k n : Int) (t : ByteArray) (x y : Tr) : sizeT (.mk k n t [x, y]) = 1 + sizeT x + sizeT y := by rw [sizeT, sizeTs, sizeTs, sizeTs]; omega
theorem size3 (k n : Int) (t : ByteArray) (x y z : Tr) : sizeT (.mk k n t [x, y, z]) = 1 + sizeT x + sizeT y + sizeT z := by rw [sizeT, sizeTs, sizeTs, sizeTs, sizeTs]; omega
mutual
theorem validS_up : ∀ (k : Tr) (d e : Int), 0 ≤ d → d ≤ e → validS k d = true → validS k e = true
  | .mk a b c ks, d, e, h0, he, h => by
    obtain ⟨h1, h2, h3⟩ := validS_inv h
    rw [validS] at h ⊢
    split at h
    · cases h
    · rename_i q
      rw [if_neg (by
        rintro (r | r)
        · omega
        · exact q (.inr r))]
      exact validSs_up ks (d - 1) (e - 1) (by omega) (by omega) h3
theorem validSs_up : ∀ (ks : List Tr) (d e : Int), 0 ≤ d → d ≤ e → validSs ks d = true → validSs ks e = true
  | [], d, e, h0, he, h => by rw [validSs]
  | k :: ks, d, e, h0, he, h => by
    rw [validSs, Bool.and_eq_true] at h ⊢
    exact ⟨validS_up k d e h0 he h.1, validSs_up ks d e h0 he h.2⟩
end
end Go.Proofs.YtccdgppplkfjfaaGreat
