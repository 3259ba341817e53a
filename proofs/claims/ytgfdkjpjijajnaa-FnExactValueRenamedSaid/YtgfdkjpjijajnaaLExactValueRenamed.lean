/-
  What is proved: the law FnExactValueRenamed returns true for all its arguments, which read afterwards as before. There is no condition.
-/
import Derived.Test.YtgfdkjpjijajnaaRows
import Derived.Test.YtgfdkjpjijajnaaOpen
import Derived.Test.YtgfdkjpjijajnaaRen
import Derived.WalkKit
import Derived.ProofKit
import Derived.OpenShut
import Derived.ShutString
import Derived.ChangeOld
import Derived.Below
import Derived.SizedLaws
import Derived.HandedShaped
namespace Go.Proofs.Ytgfdkjpjijajnaa.fnExactValueRenamed
open Go.ChangeShapes Go.WideShapes Go.ChangeAt Go.RowKit Go.ChangeMaps Go.Ax
set_option linter.unusedVariables false
set_option maxRecDepth 100000 in
theorem lifted (os : Os) (started : os.Started) (H : Type) (enc : TypeId × Value → H) :
    ReturnsInHanded {} Try.checked os 12 .any (Rows.fnExactValueRenamedSpec.pre6 enc Try.prog Try.f12 Rows.fnExactValueRenamedRow.domain false) (Rows.fnExactValueRenamedSpec.post enc Try.prog Try.f12 false true false false) := by
  refine returnsInHanded_of_change_shaped (C := Try.checked) own started (by kernel_rfl) Try.func12
    (ChangeSpec.witness6 (enc := enc) (C := Try.checked) false ⟨#[], #[.agg #[.int .i64 0, .int .i64 0, .string ⟨#[]⟩, .slice none 0 0], .string ⟨#[]⟩, .string ⟨#[]⟩], []⟩ 8 (by kernel_rfl) (by kernel_rfl) (by kernel_rfl) (by kernel_rfl)) ?_
  intro W base args ds gs before hval0 hW hcnd hsz hsh _
  have hW' := hW
  obtain ⟨p, q, hA0, hV, rfl, hfz, hnd⟩ := hW
  have hA : DataW.TrodAll enc Try.prog W 0 (fun _ => true) true Try.f12.params.toList args.toList ds p := hA0
  have hval : ∀ (j : Nat) t v, Try.f12.params[j]? = some t → args[j]? = some v → Value.okWide Try.prog W .any base t v := hval0
  rw [Try.params12] at hA hval
  obtain ⟨rfl, rfl⟩ := trodVars_none hV
  obtain ⟨v0, v1, v2, d0, d1, d2, p0, p1, p2, rfl, rfl, rfl, h0, h1, h2⟩ := trodAll_three hA
  have hlt0 : ∀ x ∈ p0, x.block < W.heap.size := fun x hx => hW'.lt x (by simp [hx])
  have hlt1 : ∀ x ∈ p1, x.block < W.heap.size := fun x hx => hW'.lt x (by simp [hx])
  have hlt2 : ∀ x ∈ p2, x.block < W.heap.size := fun x hx => hW'.lt x (by simp [hx])
  have h0k := h0
  have h1k := h1
  have h2k := h2
  obtain ⟨s0, hs0, hr0⟩ := open_tree_Value h0k
  have ht0 : s0.text.size ≤ 140737488355328 := open_text_Value h0k hr0 fun n hn => by
    have q := List.all_eq_true.1 hsz n (DataW.weights_mem_each (j := 0) (t := 28) (d := d0) rfl rfl n hn)
    have q2 := reachBytes_lt
    simp only [decide_eq_true_eq] at q; omega
  obtain ⟨s1, rfl, rfl, -, hs1⟩ := open_string Try.underlying9 (hval 1 9 v1 rfl rfl) h1k
  replace hs1 : s1.size ≤ 140737488355328 := by
    have q := sized_string hsz (j := 1) (t := 9) (bytes := s1.data.toList) rfl rfl
    have q2 := reachBytes_lt
    rw [data_length] at q; omega
  obtain ⟨s2, rfl, rfl, -, hs2⟩ := open_string Try.underlying9 (hval 2 9 v2 rfl rfl) h2k
  replace hs2 : s2.size ≤ 140737488355328 := by
    have q := sized_string hsz (j := 2) (t := 9) (bytes := s2.data.toList) rfl rfl
    have q2 := reachBytes_lt
    rw [data_length] at q; omega
  have hg := gl_shaped hsh
  refine (AF.below (exactValueRenamed s0 hs0 ht0 s1 hs1 s2 hs2) (vs := [v0, .string s1, .string s2]) (repT_of hr0 (repT_str (repT_str (repT_nil)))) hg).mono fun e W' ⟨he, bel⟩ => ?_
  subst he
  exact ⟨_, rfl, _, _, _, [], _, [], hW', trodAll_mk1 (shut_bool Try.underlying4 _), trodAll_mk3 (Below.trod laidOut (by kernel_rfl) (of_decide_eq_true (by kernel_rfl)) h0 bel hlt0) (Below.trod laidOut (by kernel_rfl) (of_decide_eq_true (by kernel_rfl)) h1 bel hlt1) (Below.trod laidOut (by kernel_rfl) (of_decide_eq_true (by kernel_rfl)) h2 bel hlt2), rfl, bel.frame _, fun h => by cases h⟩
theorem over : Rows.fnExactValueRenamedRow.holds Try.pinned (OpenSpec.ofChange Rows.fnExactValueRenamedSpec) :=
  OpenClaim.holds_of_wide 12 Try.f12 rfl rfl rfl rfl rfl rfl rfl ⟨rfl, rfl, rfl, rfl, rfl⟩ rfl rfl rfl rfl rfl (by kernel_rfl) Try.func12 (by kernel_rfl)
    (of_decide_eq_true (by kernel_rfl)) (by unfold Func.isWrapper; first | (rw [if_pos (by decide +kernel)]; kernel_rfl) | (rw [if_neg (by decide +kernel)]; exact ⟨rfl, rfl⟩))
    (fun os started H enc _ => lifted os started H enc)
end Go.Proofs.Ytgfdkjpjijajnaa.fnExactValueRenamed
namespace Go.Proofs.Ytgfdkjpjijajnaa
/-- The statement. -/
theorem fnExactValueRenamed_holds : Rows.FnExactValueRenamedSaid := fnExactValueRenamed.over
#print axioms fnExactValueRenamed_holds
end Go.Proofs.Ytgfdkjpjijajnaa
