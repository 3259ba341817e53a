/- What an expression calls. -/
import Derived.Test.YtccdgppplkfjfaaDoorStrs
namespace Go.Proofs.YtccdgppplkfjfaaDoor
open Go Go.Ax Go.Proofs
set_option linter.unusedVariables false
set_option linter.unusedSimpArgs false
set_option maxRecDepth 20000

def ownS (l : List ByteArray) : AV → Hp → Prop := fun r hp' => ∃ B : Option Nat, r = .loc B 0 l.length l.length 1 ∧ hp' = [(B, ⟨1, strs l⟩)]
theorem ownS.fz {l : List ByteArray} {r : AV} {hp' : Hp} (h : ownS l r hp') : Fz hp' r (.ro 1 (strs l) [] false) := by
  obtain ⟨B, rfl, rfl⟩ := h
  exact (Bor.loc (j := 0) rfl (by simp [strs]) (by rw [List.take_of_length_le (by simp [strs])]; exact viewL_strs l)).fz
theorem ownS.free {l : List ByteArray} {r : AV} {hp' : Hp} (h : ownS l r hp') : Free r ∧ ∀ B row, (B, row) ∈ hp' → FreeL row.xs := by
  obtain ⟨B, rfl, rfl⟩ := h
  refine ⟨fun w ok ok' cs F hr => ?_, fun B' row hm => ?_⟩
  · cases B <;> simpa only [Rep] using hr
  · simp at hm; obtain ⟨rfl, rfl⟩ := hm; exact freeL_strs l
def joinL : List ByteArray → List ByteArray → List ByteArray
  | a, [] => a
  | a, n :: b => joinL (if memB a n = true then a else a ++ [n]) b
theorem joinL_length : ∀ (b a : List ByteArray), (joinL a b).length ≤ a.length + b.length
  | [], a => by simp [joinL]
  | n :: b, a => by
    rw [joinL]
    have := joinL_length b (if memB a n = true then a else a ++ [n])
    split at this <;> rename_i h
    · rw [if_pos h]; simp; omega
    · rw [if_neg h]; simp at this ⊢; omega
mutual
def callsT : Tr → List ByteArray
  | .mk k _ t ks => callsK ks (if k = 4 then [t] else [])
def callsK : List Tr → List ByteArray → List ByteArray
  | [], out => out
  | k :: ks, out => callsK ks (joinL out (callsT k))
end
mutual
theorem callsT_length : ∀ k : Tr, ((callsT k).length : Int) ≤ sizeT k
  | .mk k n t ks => by
    rw [callsT, sizeT]
    have := callsK_length ks (if k = 4 then [t] else [])
    split at this <;> rename_i h
    · rw [if_pos h]; simp at this; omega
    · rw [if_neg h]; simp at this; omega
theorem callsK_length : ∀ (ks : List Tr) (out : List ByteArray), ((callsK ks out).length : Int) ≤ out.length + sizeTs ks
  | [], out => by rw [callsK, sizeTs]; omega
  | k :: ks, out => by
    rw [callsK, sizeTs]
    have h1 := callsK_length ks (joinL out (callsT k))
    have h2 := joinL_length (callsT k) out
    have h3 := callsT_length k
    omega
end
theorem len_app (l : List ByteArray) (t : ByteArray) : l.length + [str t].length = (l ++ [t]).length := by simp
theorem drop_at' {α : Type} {l : List α} {i : Nat} {x : α} (h : l[i]? = some x) : l.drop i = x :: l.drop (i + 1) := by
  obtain ⟨hi, e⟩ := List.getElem?_eq_some_iff.1 h
  rw [List.drop_eq_getElem_cons hi, e]

def callsE (k : Tr) : List ByteArray := if okE k = true then callsT k else []
end Go.Proofs.YtccdgppplkfjfaaDoor
