/- ValueSame of both programs, and its law. -/
import Derived.Test.YtnmodhbchfkfbaaVok
import Derived.Test.YtnmodhbchfkfbaaSame
namespace Go.Proofs.Ytnmodhbchfkfbaa
open Go Go.Ax Go.Proofs
set_option linter.unusedVariables false
set_option linter.unusedSimpArgs false
set_option maxRecDepth 20000

theorem iValueSame_AF (k k' : Tr) (hk : k.bnd 1000000) (hk' : k'.bnd 1000000) : Fn 20 [k.av, k'.av] (bool (validV k 6 && (validV k' 6 && sameT k k'))) := by
  obtain ⟨kd, nm, t, ks⟩ := k
  obtain ⟨kd', nm', t', ks'⟩ := k'
  refine AF.intro Try.func20 nm20 rfl rfl rfl rfl fun w0 ok0 => ?_
  refine AWP.seq ?_
  refine AWP.region ?_
  refine AOps.box rfl rfl rfl rfl fun b1 => ?_
  refine AOps.box rfl rfl rfl rfl fun b2 => ?_
  refine Y (ass rfl) rfl ?_
  refine AOps.nil ?_
  refine AWP.seq ?_
  refine AWP.region ?_
  refine Y (Yields.load_ptr_agg (j := 1) kd30 rfl rfl rfl rfl) rfl ?_
  refine AOps.callro (iValueOk_AF (.mk kd nm t ks) hk) rfl rfl rfl ?_
  refine Y (mv rfl) rfl ?_
  refine AOps.split 7 rfl (fun h1 => ?_) (fun h1 => ?_)
  · skip
    refine AOps.on rfl rfl ?_
    refine Y (Yields.load_ptr_agg (j := 0) kd30 rfl rfl rfl rfl) rfl ?_
    refine AOps.on rfl rfl ?_
    refine AOps.callro (iValueOk_AF (.mk kd' nm' t' ks') hk') rfl rfl rfl ?_
    refine Y (Yields.pick_true rfl rfl) rfl ?_
    refine Y (mv rfl) rfl ?_
    refine AOps.split 11 rfl (fun h2 => ?_) (fun h2 => ?_)
    · skip
      refine AOps.on rfl rfl ?_
      refine Y (Yields.load_ptr_agg (j := 1) kd30 rfl rfl rfl rfl) rfl ?_
      refine AOps.on rfl rfl ?_
      refine Y (Yields.load_ptr_agg (j := 0) kd30 rfl rfl rfl rfl) rfl ?_
      refine AOps.on rfl rfl ?_
      refine AOps.callro (isame_AFValue (.mk kd nm t ks) (.mk kd' nm' t' ks') hk) rfl rfl rfl ?_
      refine Y (Yields.pick_true rfl rfl) rfl ?_
      refine Y (ass rfl) rfl ?_
      refine AOps.nil ?_
      refine AWP.ret ⟨.inl rfl, ?_⟩
      exact RetIs.oneV rfl rfl (by (rw [h1, h2]; rfl) <;> rfl)
    · skip
      refine AOps.off' rfl rfl rfl rfl ?_
      refine AOps.off' rfl rfl rfl rfl ?_
      refine AOps.off' rfl rfl rfl rfl ?_
      refine Y (Yields.pick_false rfl rfl) rfl ?_
      refine Y (ass rfl) rfl ?_
      refine AOps.nil ?_
      refine AWP.ret ⟨.inl rfl, ?_⟩
      exact RetIs.oneV rfl rfl (by (rw [h1, h2]; rfl) <;> rfl)
  · skip
    refine AOps.off' rfl rfl rfl rfl ?_
    refine AOps.off' rfl rfl rfl rfl ?_
    refine Y (Yields.pick_false rfl rfl) rfl ?_
    refine Y (mv rfl) rfl ?_
    refine AOps.off' rfl rfl rfl rfl ?_
    refine AOps.off' rfl rfl rfl rfl ?_
    refine AOps.off' rfl rfl rfl rfl ?_
    refine Y (Yields.pick_false rfl rfl) rfl ?_
    refine Y (ass rfl) rfl ?_
    refine AOps.nil ?_
    refine AWP.ret ⟨.inl rfl, ?_⟩
    exact RetIs.oneV rfl rfl (by (rw [h1]; rfl) <;> rfl)
end Go.Proofs.Ytnmodhbchfkfbaa
