/-
  What is proved: the law FnExactSharedPaths returns true for all its arguments, which read afterwards as before. There is no condition.
-/
import Derived.Test.YtccdgppplkfjfaaRows
import Derived.Test.YtccdgppplkfjfaaOpen
import Derived.Test.YtccdgppplkfjfaaShl
import Derived.WalkKit
import Derived.ProofKit
import Derived.OpenShut
import Derived.ShutString
import Derived.ChangeOld
import Derived.Below
import Derived.SizedLaws
import Derived.HandedShaped
namespace Go.Proofs.Ytccdgppplkfjfaa.fnExactSharedPaths
open Go.ChangeShapes Go.WideShapes Go.ChangeAt Go.RowKit Go.ChangeMaps Go.Ax
set_option linter.unusedVariables false
set_option maxRecDepth 100000 in
theorem lifted (os : Os) (started : os.Started) (H : Type) (enc : TypeId × Value → H) :
    ReturnsInHanded {} Try.checked os 8 .any (Rows.fnExactSharedPathsSpec.pre6 enc Try.prog Try.f8 Rows.fnExactSharedPathsRow.domain false) (Rows.fnExactSharedPathsSpec.post enc Try.prog Try.f8 false true false false) := by
  refine returnsInHanded_of_change_shaped (C := Try.checked) own started (by kernel_rfl) Try.func8
    (ChangeSpec.witness6 (enc := enc) (C := Try.checked) false ⟨#[], #[.agg #[.int .i64 0, .int .i64 0, .string ⟨#[]⟩, .slice none 0 0], .slice none 0 0], []⟩ 8 (by kernel_rfl) (by kernel_rfl) (by kernel_rfl) (by kernel_rfl)) ?_
  intro W base args ds gs before hval0 hW hcnd hsz hsh _
  have hW' := hW
  obtain ⟨p, q, hA0, hV, rfl, hfz, hnd⟩ := hW
  have hA : DataW.TrodAll enc Try.prog W 0 (fun _ => true) true Try.f8.params.toList args.toList ds p := hA0
  have hval : ∀ (j : Nat) t v, Try.f8.params[j]? = some t → args[j]? = some v → Value.okWide Try.prog W .any base t v := hval0
  rw [Try.params8] at hA hval
  obtain ⟨rfl, rfl⟩ := trodVars_none hV
  obtain ⟨v0, v1, d0, d1, p0, p1, rfl, rfl, rfl, h0, h1⟩ := trodAll_two hA
  have hlt0 : ∀ x ∈ p0, x.block < W.heap.size := fun x hx => hW'.lt x (by simp [hx])
  have hlt1 : ∀ x ∈ p1, x.block < W.heap.size := fun x hx => hW'.lt x (by simp [hx])
  have h0k := h0
  have h1k := h1
  obtain ⟨s0, hs0, hr0⟩ := open_tree_Expr h0k
  have ht0 : s0.text.size ≤ 140737488355328 := open_text_Expr h0k hr0 fun n hn => by
    have q := List.all_eq_true.1 hsz n (DataW.weights_mem_each (j := 0) (t := 24) (d := d0) rfl rfl n hn)
    have q2 := reachBytes_lt
    simp only [decide_eq_true_eq] at q; omega
  obtain ⟨A1, len1, cap1, rfl⟩ := okWide_slice Try.underlying41 (hval 1 41 v1 rfl rfl)
  obtain ⟨s1, hz1, hl1, hW1, hr1⟩ := open_ints_ro Try.underlying41 Try.underlying3 (by kernel_rfl) h1k
  have hs1 : s1.length ≤ 140737488355328 := by
    have q := hW1 reachBytes fun n hn => by simpa using List.all_eq_true.1 hsz n (DataW.weights_mem_each (j := 1) (t := 41) (d := d1) rfl rfl n hn)
    have q2 := reachBytes_lt
    have q3 : Try.prog.bytesOf 3 = 8 := by kernel_rfl
    rw [q3] at q; omega
  have hg := gl_shaped hsh
  refine (AF.below (exactSharedPaths s0 hs0 ht0 s1 hs1) (vs := [v0, .slice A1 len1 cap1]) (repT_of hr0 (repT_of hr1 (repT_nil))) hg).mono fun e W' ⟨he, bel⟩ => ?_
  subst he
  exact ⟨_, rfl, _, _, _, [], _, [], hW', trodAll_mk1 (shut_bool Try.underlying4 _), trodAll_mk2 (Below.trod laidOut (by kernel_rfl) (of_decide_eq_true (by kernel_rfl)) h0 bel hlt0) (Below.trod laidOut (by kernel_rfl) (of_decide_eq_true (by kernel_rfl)) h1 bel hlt1), rfl, bel.frame _, fun h => by cases h⟩
theorem over : Rows.fnExactSharedPathsRow.holds Try.pinned (OpenSpec.ofChange Rows.fnExactSharedPathsSpec) :=
  OpenClaim.holds_of_wide 8 Try.f8 rfl rfl rfl rfl rfl rfl rfl ⟨rfl, rfl, rfl, rfl, rfl⟩ rfl rfl rfl rfl rfl (by kernel_rfl) Try.func8 (by kernel_rfl)
    (of_decide_eq_true (by kernel_rfl)) (by unfold Func.isWrapper; first | (rw [if_pos (by decide +kernel)]; kernel_rfl) | (rw [if_neg (by decide +kernel)]; exact ⟨rfl, rfl⟩))
    (fun os started H enc _ => lifted os started H enc)
end Go.Proofs.Ytccdgppplkfjfaa.fnExactSharedPaths
namespace Go.Proofs.Ytccdgppplkfjfaa
/-- The statement. -/
theorem fnExactSharedPaths_holds : Rows.FnExactSharedPathsSaid := fnExactSharedPaths.over
#print axioms fnExactSharedPaths_holds
end Go.Proofs.Ytccdgppplkfjfaa
