/- What is known of the library's variables; how a contract is written here. -/
import Derived.Test.YtccdgppplkfjfaaDoorFacts
namespace Go.Proofs.YtccdgppplkfjfaaDoor
open Go Go.Ax Go.Proofs
set_option linter.unusedVariables false
set_option linter.unusedSimpArgs false
def gl : GL where
  holds w := ∃ m, w.cell? ⟨0, 0, none⟩ = some (.int .i64 m)
  low := 1
  keep w w' h hh := by
    obtain ⟨m, hm⟩ := hh
    exact ⟨m, (cell_of_heap (h 0 (by omega)) 0).trans hm⟩
theorem mixed : Tryd.prog.follows .mixedOrders = true := by kernel_rfl
abbrev Fn (f : FuncId) (ps : List AV) (r : AV) : Prop := AF Tryd.prog gl f ps r (noOuts ps)
abbrev bool (b : Bool) : AV := .val (.bool b)
abbrev int (n : Int) : AV := .val (.int .i64 n)
abbrev str (s : ByteArray) : AV := .val (.string s)
theorem tup2 {x x' : Int} {b b' : Bool} (h : x = x') (h' : b = b') : AV.tup [int x, bool b] = .tup [int x', bool b'] := by rw [h, h']
def strs (l : List ByteArray) : List AV := l.map fun s => .val (.string s)
theorem strs_length (l : List ByteArray) : (strs l).length = l.length := by simp [strs]
theorem freeL_strs : ∀ l : List ByteArray, FreeL (strs l)
  | [] => trivial
  | s :: l => ⟨Free.val, freeL_strs l⟩
theorem strs_at {l : List ByteArray} {i : Nat} {s : ByteArray} (h : l[i]? = some s) : (strs l)[i]? = some (str s) := by simp [strs, h]
end Go.Proofs.YtccdgppplkfjfaaDoor
