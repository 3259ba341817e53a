/- Trees compared, and found intact. -/
import Derived.Test.YteieleejhbljfaaGreatTo
namespace Go.Proofs.YteieleejhbljfaaGreat
open Go Go.Ax Go.Proofs
set_option linter.unusedVariables false
set_option linter.unusedSimpArgs false
set_option maxRecDepth 20000

mutual
def sameT : Tr → Tr → Bool
  | .mk k n t ks, .mk k' n' t' ks' => decide (k = k') && (decide (n = n') && (decide (t = t') && sameTs ks ks'))
def sameTs : List Tr → List Tr → Bool
  | [], [] => true
  | k :: ks, k' :: ks' => sameT k k' && sameTs ks ks'
  | _, _ => false
end
theorem sameTs_len : ∀ {us vs : List Tr}, us.length ≠ vs.length → sameTs us vs = false
  | [], [], h => absurd rfl h
  | [], b :: vs, _ => by simp [sameTs]
  | a :: us, [], _ => by simp [sameTs]
  | a :: us, b :: vs, h => by rw [sameTs, sameTs_len (us := us) (vs := vs) (by simpa using h), Bool.and_false]
mutual
theorem sameT_refl : ∀ k : Tr, sameT k k = true
  | .mk k n t ks => by simp [sameT, sameTs_refl ks]
theorem sameTs_refl : ∀ ks : List Tr, sameTs ks ks = true
  | [] => by simp [sameTs]
  | k :: ks => by simp [sameTs, sameT_refl k, sameTs_refl ks]
end


theorem spare_at (ks : List Tr) : ((Tr.avRs false ks ++ Tr.spare false ks.length).drop (Tr.avRs false ks).length).take ((Tr.avRs false ks).length + Tr.room (Tr.avRs false ks).length - (Tr.avRs false ks).length) = Tr.avs (List.replicate (Tr.room ks.length) Tr.fillT) := by
  rw [List.drop_left, Nat.add_sub_cancel_left, Tr.avRs_length, ← Tr.avs_replicate, Tr.spare, if_neg (by simp), List.take_of_length_le (by simp)]
theorem spare_len (ks : List Tr) : (Tr.spare false ks.length).length = Tr.room ks.length := by simp [Tr.spare]
theorem bnds_fill : ∀ n, Tr.bnds 1000000 (List.replicate n Tr.fillT)
  | 0 => trivial
  | n + 1 => by rw [List.replicate_succ]; exact ⟨⟨by decide, by decide, trivial⟩, bnds_fill n⟩
end Go.Proofs.YteieleejhbljfaaGreat
