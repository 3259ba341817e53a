/-
  What is proved: the law FnExactSimpleAll returns true for all its arguments, which read afterwards as before. There is no condition.
-/
import Derived.Test.YtccdgppplkfjfaaGreatRows
import Derived.Test.YtccdgppplkfjfaaGreatOpen
import Derived.Test.YtccdgppplkfjfaaGreatSma
import Derived.WalkKit
import Derived.ProofKit
import Derived.OpenShut
import Derived.ShutString
import Derived.ChangeOld
import Derived.Below
import Derived.SizedLaws
import Derived.HandedShaped
namespace Go.Proofs.YtccdgppplkfjfaaGreat.fnExactSimpleAll
open Go.ChangeShapes Go.WideShapes Go.ChangeAt Go.RowKit Go.ChangeMaps Go.Ax
set_option linter.unusedVariables false
set_option maxRecDepth 100000 in
theorem lifted (os : Os) (started : os.Started) (H : Type) (enc : TypeId × Value → H) :
    ReturnsInHanded {} Tryz.checked os 3 .any (Rows.fnExactSimpleAllSpec.pre6 enc Tryz.prog Tryz.f3 Rows.fnExactSimpleAllRow.domain false) (Rows.fnExactSimpleAllSpec.post enc Tryz.prog Tryz.f3 false true false false) := by
  refine returnsInHanded_of_change_shaped (C := Tryz.checked) own started (by kernel_rfl) Tryz.func3
    (ChangeSpec.witness6 (enc := enc) (C := Tryz.checked) false ⟨#[], #[.agg #[.int .i64 0, .int .i64 0, .string ⟨#[]⟩, .slice none 0 0]], []⟩ 8 (by kernel_rfl) (by kernel_rfl) (by kernel_rfl) (by kernel_rfl)) ?_
  intro W base args ds gs before hval0 hW hcnd hsz hsh _
  have hW' := hW
  obtain ⟨p, q, hA0, hV, rfl, hfz, hnd⟩ := hW
  have hA : DataW.TrodAll enc Tryz.prog W 0 (fun _ => true) true Tryz.f3.params.toList args.toList ds p := hA0
  have hval : ∀ (j : Nat) t v, Tryz.f3.params[j]? = some t → args[j]? = some v → Value.okWide Tryz.prog W .any base t v := hval0
  rw [Tryz.params3] at hA hval
  obtain ⟨rfl, rfl⟩ := trodVars_none hV
  obtain ⟨v0, d0, rfl, rfl, h0⟩ := trodAll_one hA
  have hlt0 : ∀ x ∈ p, x.block < W.heap.size := fun x hx => hW'.lt x (by simp [hx])
  have h0k := h0
  obtain ⟨s0, hs0, hr0⟩ := open_tree_Expr h0k
  have hg := gl_shaped hsh
  refine (AF.below (exactSimpleAll s0 hs0) (vs := [v0]) (repT_of hr0 (repT_nil)) hg).mono fun e W' ⟨he, bel⟩ => ?_
  subst he
  exact ⟨_, rfl, _, _, _, [], _, [], hW', trodAll_mk1 (shut_bool Tryz.underlying4 _), trodAll_mk1 (Below.trod laidOut (by kernel_rfl) (of_decide_eq_true (by kernel_rfl)) h0 bel hlt0), rfl, bel.frame _, fun h => by cases h⟩
theorem over : Rows.fnExactSimpleAllRow.holds Tryz.pinned (OpenSpec.ofChange Rows.fnExactSimpleAllSpec) :=
  OpenClaim.holds_of_wide 3 Tryz.f3 rfl rfl rfl rfl rfl rfl rfl ⟨rfl, rfl, rfl, rfl, rfl⟩ rfl rfl rfl rfl rfl (by kernel_rfl) Tryz.func3 (by kernel_rfl)
    (of_decide_eq_true (by kernel_rfl)) (by unfold Func.isWrapper; first | (rw [if_pos (by decide +kernel)]; kernel_rfl) | (rw [if_neg (by decide +kernel)]; exact ⟨rfl, rfl⟩))
    (fun os started H enc _ => lifted os started H enc)
end Go.Proofs.YtccdgppplkfjfaaGreat.fnExactSimpleAll
namespace Go.Proofs.YtccdgppplkfjfaaGreat
/-- The statement. -/
theorem fnExactSimpleAll_holds : Rows.FnExactSimpleAllSaid := fnExactSimpleAll.over
#print axioms fnExactSimpleAll_holds
end Go.Proofs.YtccdgppplkfjfaaGreat
