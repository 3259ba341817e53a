/- The law of FreshName. -/
import Derived.Test.YtccdgppplkfjfaaDoorFre
import Derived.Test.YtccdgppplkfjfaaDoorTxs
namespace Go.Proofs.YtccdgppplkfjfaaDoor
open Go Go.Ax Go.Proofs
set_option linter.unusedVariables false
set_option linter.unusedSimpArgs false
set_option maxRecDepth 20000
theorem exactFreshName (s : ByteArray) (hs : s.size ≤ 140737488355328) (l : List ByteArray) (hl : ∀ x ∈ l, x.size ≤ 9223372036854775807) (hn : l.length ≤ 140737488355328) : Fn 5 [str s, .ro 1 (strs l) [] false] (bool true) := by
  refine AF.intro Tryd.func5 nm5 rfl rfl rfl rfl fun w0 ok0 => ?_
  refine AWP.seq ?_
  refine AWP.region ?_
  refine Y (ass rfl) rfl ?_
  refine AOps.nil ?_
  refine AWP.seq ?_
  refine AWP.region ?_
  refine Y (mv rfl) rfl ?_
  refine Y (Yields.len_str Tryd.underlying9 rfl) rfl ?_
  refine Y (bn rfl rfl (BinR.subI (by omega) (by omega)) rfl) rfl ?_
  refine Y (ass rfl) rfl ?_
  refine AOps.nil ?_
  refine AWP.seq ?_
  refine AWP.region ?_
  refine Y (mv rfl) rfl ?_
  refine Y (mv rfl) rfl ?_
  refine AOps.callro (szStringS_AF l hn hl (1000000 - s.size) (by omega) (by omega)) rfl rfl rfl ?_
  refine Y (ass rfl) rfl ?_
  refine AOps.nil ?_
  refine AWP.seq ?_
  refine AWP.seq ?_
  refine AWP.region ?_
  refine Y (mv rfl) rfl ?_
  refine Y (bn rfl rfl BinR.lss rfl) rfl ?_
  refine AOps.nil ?_
  refine AWP.condT rfl (fun h => ?_) (fun h => ?_)
  ·
   replace h := of_decide_eq_true h
   refine AWP.seq ?_
   refine AWP.region ?_
   refine Y (ass rfl) rfl ?_
   refine AOps.nil ?_
   refine AWP.ret ⟨.inl rfl, ?_⟩
   exact RetIs.oneV rfl rfl (by (rfl) <;> rfl)
  ·
   replace h := of_decide_eq_false h
   have hz := szTx_ge (l := l) (s := 1000000 - s.size) (by omega)
   refine AWP.skip ?_
   refine AWP.seq ?_
   refine AWP.region ?_
   refine Y (mv rfl) rfl ?_
   refine Y (mv rfl) rfl ?_
   refine AOps.callro (toStringS_AF false l (by omega)) rfl rfl rfl ?_
   refine AOps.callw (sFreshName_AF s l (by omega) (by omega)) rfl rfl ⟨Wk.refl _, wkS _ _, trivial⟩ rfl ?_
   refine Y (ass rfl) rfl ?_
   refine AOps.nil ?_
   refine AWP.seq ?_
   refine AWP.region ?_
   refine Y (mv rfl) rfl ?_
   refine AOps.callro (toStringS_AF false l (by omega)) rfl rfl rfl ?_
   refine Y (ass rfl) rfl ?_
   refine AOps.nil ?_
   refine AWP.seq ?_
   refine AWP.region ?_
   refine Y (mv rfl) rfl ?_
   refine Y (mv rfl) rfl ?_
   refine AOps.callw (iFreshName_AF s l (by omega) (by omega)) rfl rfl ⟨Wk.refl _, wkS _ _, trivial⟩ rfl ?_
   refine Y (ass rfl) rfl ?_
   refine AOps.nil ?_
   refine AWP.seq ?_
   refine AWP.seq ?_
   refine AWP.region ?_
   refine Y (mv rfl) rfl ?_
   refine Y (mv rfl) rfl ?_
   refine Y (bn rfl rfl BinR.sneq rfl) rfl ?_
   refine AOps.nil ?_
   refine AWP.condT rfl (fun h2 => ?_) (fun h2 => ?_)
   ·
    replace h2 := of_decide_eq_true h2
    simp at h2
   ·
    replace h2 := Decidable.of_not_not (of_decide_eq_false h2)
    refine AWP.skip ?_
    refine AWP.seq ?_
    refine AWP.seq ?_
    refine AWP.region ?_
    refine Y (mv rfl) rfl ?_
    refine Y (mv rfl) rfl ?_
    refine AOps.callro (toStringS_AF false l (by omega)) rfl rfl rfl ?_
    refine AOps.callro (intactStringS_AF l (by omega)) rfl rfl rfl ?_
    refine Y (Yields.not rfl) rfl ?_
    refine AOps.nil ?_
    refine AWP.condT rfl (fun h3 => ?_) (fun h3 => ?_)
    ·
     skip
     simp at h3
    ·
     skip
     refine AWP.skip ?_
     refine AWP.seq ?_
     refine AWP.region ?_
     refine Y (mv rfl) rfl ?_
     refine Y (mv rfl) rfl ?_
     refine AOps.callro (toStringS_AF true l (by omega)) rfl rfl rfl ?_
     refine AOps.callw (iFreshName_AF s l (by omega) (by omega)) rfl rfl ⟨Wk.refl _, wkS _ _, trivial⟩ rfl ?_
     refine Y (ass rfl) rfl ?_
     refine AOps.nil ?_
     refine AWP.seq ?_
     refine AWP.seq ?_
     refine AWP.region ?_
     refine Y (mv rfl) rfl ?_
     refine Y (mv rfl) rfl ?_
     refine Y (bn rfl rfl BinR.sneq rfl) rfl ?_
     refine AOps.nil ?_
     refine AWP.condT rfl (fun h4 => ?_) (fun h4 => ?_)
     ·
      replace h4 := of_decide_eq_true h4
      simp at h4
     ·
      replace h4 := Decidable.of_not_not (of_decide_eq_false h4)
      refine AWP.skip ?_
      refine AWP.seq ?_
      refine AWP.region ?_
      refine Y (ass rfl) rfl ?_
      refine AOps.nil ?_
      refine AWP.ret ⟨.inl rfl, ?_⟩
      exact RetIs.oneV rfl rfl (by (rfl) <;> rfl)
end Go.Proofs.YtccdgppplkfjfaaDoor
