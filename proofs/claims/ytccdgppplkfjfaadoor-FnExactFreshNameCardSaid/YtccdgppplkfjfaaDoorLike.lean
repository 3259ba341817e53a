/- Expressions alike but for bound names. -/
import Derived.Test.YtccdgppplkfjfaaDoorStrs
namespace Go.Proofs.YtccdgppplkfjfaaDoor
open Go Go.Ax Go.Proofs
set_option linter.unusedVariables false
set_option linter.unusedSimpArgs false
set_option maxRecDepth 20000

def lastL (l : List ByteArray) (s : ByteArray) : Nat → Int
  | 0 => -1
  | i + 1 => if l[i]? = some s then i else lastL l s i
theorem lastL_le (l : List ByteArray) (s : ByteArray) : ∀ i : Nat, -1 ≤ lastL l s i ∧ lastL l s i < i
  | 0 => by simp [lastL]
  | i + 1 => by
    have := lastL_le l s i
    rw [lastL]
    split <;> omega
def backL (l : List ByteArray) (s : ByteArray) : Int := if lastL l s l.length = -1 then -1 else l.length - 1 - lastL l s l.length
theorem back_iff {l l' : List ByteArray} {s s' : ByteArray} (h : l.length = l'.length) : (backL l s = backL l' s') ↔ lastL l s l.length = lastL l' s' l'.length := by
  have h1 := lastL_le l s l.length
  have h2 := lastL_le l' s' l'.length
  unfold backL
  split <;> split <;> omega
theorem back_nonneg {l : List ByteArray} {s : ByteArray} : 0 ≤ backL l s ↔ 0 ≤ lastL l s l.length := by
  have h1 := lastL_le l s l.length
  unfold backL
  split <;> omega

mutual
def likeT : Tr → Tr → List ByteArray → List ByteArray → Bool
  | .mk k n t ks, .mk k' n' t' ks', us, vs =>
    if k ≠ k' ∨ n ≠ n' ∨ ks.length ≠ ks'.length then false
    else if k = 3 then decide (lastL us t us.length = lastL vs t' vs.length) && (decide (0 ≤ lastL us t us.length) || decide (t = t'))
    else if k = 11 ∨ k = 12 then likeK ks ks' us vs (us ++ [t]) (vs ++ [t']) 0
    else decide (t = t') && likeK ks ks' us vs us vs 0
def likeK : List Tr → List Tr → List ByteArray → List ByteArray → List ByteArray → List ByteArray → Nat → Bool
  | [], [], _, _, _, _, _ => true
  | k :: ks, k' :: ks', us, vs, us2, vs2, i => likeT k k' (if i = 1 then us2 else us) (if i = 1 then vs2 else vs) && likeK ks ks' us vs us2 vs2 (i + 1)
  | _, _, _, _, _, _, _ => false
end

theorem validS_inv {k nm : Int} {t : ByteArray} {ks : List Tr} {d : Int} (h : validS (.mk k nm t ks) d = true) : d ≠ 0 ∧ inR ks.length (lowV k) (highV k) = true ∧ validSs ks (d - 1) = true := by
  rw [validS] at h
  split at h
  · cases h
  · rename_i q
    refine ⟨fun e => q (.inl e), ?_, h⟩
    cases hr : inR ks.length (lowV k) (highV k) with
    | true => rfl
    | false => exact absurd (.inr (.inr (.inr (.inr hr)))) q
theorem validSs_get : ∀ {ks : List Tr} {d : Int} {i : Nat} {k : Tr}, validSs ks d = true → ks[i]? = some k → validS k d = true
  | [], d, i, k, h, hk => by simp at hk
  | a :: ks, d, 0, k, h, hk => by
    simp at hk; subst hk
    rw [validSs, Bool.and_eq_true] at h
    exact h.1
  | a :: ks, d, i + 1, k, h, hk => by
    rw [validSs, Bool.and_eq_true] at h
    exact validSs_get h.2 (by simpa using hk)
theorem strs_append (l : List ByteArray) (t : ByteArray) : ([] ++ strs l) ++ [str t] = strs (l ++ [t]) := by simp [strs]
theorem viewL_app (l : List ByteArray) (t : ByteArray) : ViewL (([] ++ strs l) ++ [str t]) (strs (l ++ [t])) := by
  rw [strs_append]; exact viewL_refl (plain_strs _)
theorem two_of {α : Type} : ∀ {l : List α}, l.length = 2 → ∃ a b, l = [a, b]
  | [a, b], _ => ⟨a, b, rfl⟩
def bindsB (k : Int) : Bool := decide (k = 11) || decide (k = 12)
theorem look_eq {tm : List (Nat × AV)} {t : Nat} {v v' : AV} (h : Go.Ax.look tm t = some v) (e : v = v') : Go.Ax.look tm t = some v' := e ▸ h
def innerL (b : Bool) (i : Nat) (us : List ByteArray) (t : ByteArray) : List ByteArray := if b = true ∧ i = 1 then us ++ [t] else us
theorem viewL_app' (l : List ByteArray) (t : ByteArray) : ViewL (strs l ++ [str t]) (strs (l ++ [t])) := viewL_app l t
end Go.Proofs.YtccdgppplkfjfaaDoor
