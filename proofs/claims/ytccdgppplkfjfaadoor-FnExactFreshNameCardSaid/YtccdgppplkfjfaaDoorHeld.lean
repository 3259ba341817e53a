/- Trees that are given back: the marks are read; equality. -/
import Derived.Test.YtccdgppplkfjfaaDoorOwn
namespace Go.Proofs.YtccdgppplkfjfaaDoor
open Go Go.Ax Go.Proofs
set_option linter.unusedVariables false
set_option linter.unusedSimpArgs false
set_option maxRecDepth 20000
theorem mark_at {ks : List Tr} {m m' i : Nat} {kd nm : Int} {t : ByteArray} {kk : List Tr} (h1 : (markL ks m).1.drop i = (markL (Tr.mk kd nm t kk :: ks.drop (i + 1)) m').1) : (markL ks m).1[i]? = some (.mk m' ((m' + 1 : Nat) : Int) (markTxt (m' + 2)) (markL kk (m' + 3)).1) := by
  rw [markL, markT] at h1
  have := congrArg (fun l => l[0]?) h1
  simpa [List.getElem?_drop] using this
end Go.Proofs.YtccdgppplkfjfaaDoor
