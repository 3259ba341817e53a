/- From a contract over known arguments to a law that is stated over all worlds. -/
import Derived.Test.YtccdgppplkfjfaaDoorBase
import Derived.Carry
import Derived.Shelf.Vars
namespace Go.Proofs.YtccdgppplkfjfaaDoor
open Go Go.Ax Go.Proofs Go.RowKit
set_option linter.unusedVariables false
set_option linter.unusedSimpArgs false

theorem own : ownKnob Tryd.prog.godebug = none := by kernel_rfl
theorem laidOut : laidOutB Tryd.prog = true := by kernel_rfl
theorem gl_shaped {w : World} (h : w.ShapedOpen Tryd.prog) : gl.holds w :=
  cell_of_shapedOpen_int (zero := #[.int .i64 0]) (t := 3) h (of_decide_eq_true (by kernel_rfl)) (by kernel_rfl) rfl (by kernel_rfl) (by kernel_rfl) Tryd.underlying3
theorem gl_low {w : World} (h : gl.holds w) : ∀ b, b < gl.low → b < w.heap.size := by
  obtain ⟨m, hm⟩ := h
  intro b hb
  have hb : b < 1 := hb
  have h0 : b = 0 := by omega
  subst h0
  rcases Nat.lt_or_ge 0 w.heap.size with h | h
  · exact h
  · have : w.heap[0]? = none := Array.getElem?_eq_none h
    simp [World.cell?, this] at hm
theorem AF.below {f : FuncId} {ps outs : List AV} (h : AF Tryd.prog gl f ps (bool true) outs) {w : World} {vs : List Value} (hv : RepT w (fun b => b < w.heap.size) ps vs []) (hg : gl.holds w) :
    Calls Tryd.prog f vs.toArray w fun e w' => e = .returned (.bool true) ∧ Below w.heap.size w w' := by
  refine (h.calls w vs [] (fun b => b < w.heap.size) hv List.nodup_nil (by simp) (fun b hb => hb) hg (gl_low hg)).mono ?_
  rintro e w' ⟨v, Fr, Fo, ok', rfl, ⟨cs, h1, rfl⟩, h3, h4, h5, h6, h7, h8, h9, h10, h11, h12, h13⟩
  simp only [Rep] at h1
  obtain ⟨-, rfl, -⟩ := h1
  exact ⟨rfl, h10, h11, h12, h9, fun k hk => h8 k hk (by simp)⟩
theorem repT_str {w : World} {ok : Nat → Prop} {s : ByteArray} {ps : List AV} {vs : List Value} (h : RepT w ok ps vs []) : RepT w ok (str s :: ps) (.string s :: vs) [] := by
  simp only [RepT]
  exact ⟨_, _, [.string s], [], [], rfl, rfl, ⟨rfl, rfl, rfl⟩, rfl, h⟩
theorem repT_int {w : World} {ok : Nat → Prop} {n : Int} {ps : List AV} {vs : List Value} (h : RepT w ok ps vs []) : RepT w ok (int n :: ps) (.int .i64 n :: vs) [] := by
  simp only [RepT]
  exact ⟨_, _, [.int .i64 n], [], [], rfl, rfl, ⟨rfl, rfl, rfl⟩, rfl, h⟩
theorem repT_nil {w : World} {ok : Nat → Prop} : RepT w ok [] [] [] := by simp [RepT]
end Go.Proofs.YtccdgppplkfjfaaDoor
