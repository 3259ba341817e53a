/-
  NARROWER THAN 'FOR EVERY INPUT', by the rows' own cells (each row's printed sentence says how): FnExactExprPaths: loops · FnExactFreeNames: loops · FnExactExprAt: loops · FnExactLocalsAt: loops · FnExactExprPut: loops · FnExactSharedPaths: loops · FnExactSharedBest: loops · FnExactSimpleRule: loops.
  DERIVED. THE GIVEN ROWS OF THIS SEAT. 8 by the template 'for every input the law returns true; each argument reads behind the call as it read before'; 0 by the template 'total and deterministic' (their statements: YtccdgppplkfjfaaTotals.lean).
  GIVEN WITH THE SEED: the statements are not yours to turn. If you find one false, say at which input.
  Laid BY PROGRAM, IN A SANDBOX (cutbox-rows.mjs): the forced cells as the released guide's own fill.sh prints them over the translation feb1a89fd7459b2d… (all of the seat's roots in one cut). By AI agents, Wed Nov 11 2026. No macro, syntax, notation, axiom, sorry.
-/
import Derived.Test.YtccdgppplkfjfaaChecked
import GoSem.Claim
import GoSem.ClaimJoined
import GoSem.ClaimMapViews
import Derived.JoinedTies
import Derived.KernelRfl
namespace Go.Proofs.Ytccdgppplkfjfaa
/- THE CELL 'sum', in the pinned program and in every row, IS THE sha256 OF THE DUMP (.gsa) THAT YtccdgppplkfjfaaProg.lean LOADS. Nothing in Lean hashes anything: it is a label: what it is worth is what the hold of that sum in a sandbox is worth. -/
noncomputable def Try.pinned : Pinned := { name := "ytccdgppplkfjfaa", sum := "feb1a89fd7459b2d8c30b8f68d72e09bac4b251676b0c2cc8fb9515686a08506", checked := Try.checked }
namespace Rows
def none {H : Type} : Left H := { results := [], args := [] }

/-- 'laws.FnExactExprPaths': WHATEVER THE INPUT: true; the input reads as it did. -/
def fnExactExprPathsSpec : ChangeSpec := { name := "fnExactExprPaths", fn := fun _ => fun
  | [d] => { results := [.lit (.bool true)], args := [d] }
  | _ => none }
def fnExactExprPathsRow : OpenClaim := { program := "ytccdgppplkfjfaa", sum := "feb1a89fd7459b2d8c30b8f68d72e09bac4b251676b0c2cc8fb9515686a08506", func := "loop.example/turnedsafely/laws.FnExactExprPaths", spec := "fnExactExprPaths", inPlace := ["internal/bytealg.IndexByteString", "internal/bytealg.IndexString"], recurses := true, named := ["internal/bytealg.MaxLen"], loops := true, apart := false }
def FnExactExprPathsSaid : Prop := fnExactExprPathsRow.holds Try.pinned (OpenSpec.ofChange fnExactExprPathsSpec)

/-- ITS FALSE NEIGHBOUR: 'it returns false'. Refute it at one input. -/
def fnExactExprPathsWrong : ChangeSpec := { name := "fnExactExprPaths", fn := fun _ => fun
  | [d] => { results := [.lit (.bool false)], args := [d] }
  | _ => none }
def FnExactExprPathsWrongFalsely : Prop := fnExactExprPathsRow.holds Try.pinned (OpenSpec.ofChange fnExactExprPathsWrong)

/-- 'laws.FnExactFreeNames': WHATEVER THE INPUT: true; the input reads as it did. -/
def fnExactFreeNamesSpec : ChangeSpec := { name := "fnExactFreeNames", fn := fun _ => fun
  | [d] => { results := [.lit (.bool true)], args := [d] }
  | _ => none }
def fnExactFreeNamesRow : OpenClaim := { program := "ytccdgppplkfjfaa", sum := "feb1a89fd7459b2d8c30b8f68d72e09bac4b251676b0c2cc8fb9515686a08506", func := "loop.example/turnedsafely/laws.FnExactFreeNames", spec := "fnExactFreeNames", inPlace := ["internal/bytealg.IndexByteString", "internal/bytealg.IndexString"], recurses := true, named := ["internal/bytealg.MaxLen"], loops := true, apart := false }
def FnExactFreeNamesSaid : Prop := fnExactFreeNamesRow.holds Try.pinned (OpenSpec.ofChange fnExactFreeNamesSpec)

/-- ITS FALSE NEIGHBOUR: 'it returns false'. Refute it at one input. -/
def fnExactFreeNamesWrong : ChangeSpec := { name := "fnExactFreeNames", fn := fun _ => fun
  | [d] => { results := [.lit (.bool false)], args := [d] }
  | _ => none }
def FnExactFreeNamesWrongFalsely : Prop := fnExactFreeNamesRow.holds Try.pinned (OpenSpec.ofChange fnExactFreeNamesWrong)

/-- 'laws.FnExactExprAt': WHATEVER THE INPUT: true; the input reads as it did. -/
def fnExactExprAtSpec : ChangeSpec := { name := "fnExactExprAt", fn := fun _ => fun
  | [d1, d2] => { results := [.lit (.bool true)], args := [d1, d2] }
  | _ => none }
def fnExactExprAtRow : OpenClaim := { program := "ytccdgppplkfjfaa", sum := "feb1a89fd7459b2d8c30b8f68d72e09bac4b251676b0c2cc8fb9515686a08506", func := "loop.example/turnedsafely/laws.FnExactExprAt", spec := "fnExactExprAt", inPlace := ["internal/bytealg.IndexByteString", "internal/bytealg.IndexString"], recurses := true, named := ["internal/bytealg.MaxLen"], loops := true, apart := false }
def FnExactExprAtSaid : Prop := fnExactExprAtRow.holds Try.pinned (OpenSpec.ofChange fnExactExprAtSpec)

/-- ITS FALSE NEIGHBOUR: 'it returns false'. Refute it at one input. -/
def fnExactExprAtWrong : ChangeSpec := { name := "fnExactExprAt", fn := fun _ => fun
  | [d1, d2] => { results := [.lit (.bool false)], args := [d1, d2] }
  | _ => none }
def FnExactExprAtWrongFalsely : Prop := fnExactExprAtRow.holds Try.pinned (OpenSpec.ofChange fnExactExprAtWrong)

/-- 'laws.FnExactLocalsAt': WHATEVER THE INPUT: true; the input reads as it did. -/
def fnExactLocalsAtSpec : ChangeSpec := { name := "fnExactLocalsAt", fn := fun _ => fun
  | [d1, d2] => { results := [.lit (.bool true)], args := [d1, d2] }
  | _ => none }
def fnExactLocalsAtRow : OpenClaim := { program := "ytccdgppplkfjfaa", sum := "feb1a89fd7459b2d8c30b8f68d72e09bac4b251676b0c2cc8fb9515686a08506", func := "loop.example/turnedsafely/laws.FnExactLocalsAt", spec := "fnExactLocalsAt", inPlace := ["internal/bytealg.IndexByteString", "internal/bytealg.IndexString"], recurses := true, named := ["internal/bytealg.MaxLen"], loops := true, apart := false }
def FnExactLocalsAtSaid : Prop := fnExactLocalsAtRow.holds Try.pinned (OpenSpec.ofChange fnExactLocalsAtSpec)

/-- ITS FALSE NEIGHBOUR: 'it returns false'. Refute it at one input. -/
def fnExactLocalsAtWrong : ChangeSpec := { name := "fnExactLocalsAt", fn := fun _ => fun
  | [d1, d2] => { results := [.lit (.bool false)], args := [d1, d2] }
  | _ => none }
def FnExactLocalsAtWrongFalsely : Prop := fnExactLocalsAtRow.holds Try.pinned (OpenSpec.ofChange fnExactLocalsAtWrong)

/-- 'laws.FnExactExprPut': WHATEVER THE INPUT: true; the input reads as it did. -/
def fnExactExprPutSpec : ChangeSpec := { name := "fnExactExprPut", fn := fun _ => fun
  | [d1, d2, d3] => { results := [.lit (.bool true)], args := [d1, d2, d3] }
  | _ => none }
def fnExactExprPutRow : OpenClaim := { program := "ytccdgppplkfjfaa", sum := "feb1a89fd7459b2d8c30b8f68d72e09bac4b251676b0c2cc8fb9515686a08506", func := "loop.example/turnedsafely/laws.FnExactExprPut", spec := "fnExactExprPut", inPlace := ["internal/bytealg.IndexByteString", "internal/bytealg.IndexString"], recurses := true, named := ["internal/bytealg.MaxLen"], loops := true, apart := false }
def FnExactExprPutSaid : Prop := fnExactExprPutRow.holds Try.pinned (OpenSpec.ofChange fnExactExprPutSpec)

/-- ITS FALSE NEIGHBOUR: 'it returns false'. Refute it at one input. -/
def fnExactExprPutWrong : ChangeSpec := { name := "fnExactExprPut", fn := fun _ => fun
  | [d1, d2, d3] => { results := [.lit (.bool false)], args := [d1, d2, d3] }
  | _ => none }
def FnExactExprPutWrongFalsely : Prop := fnExactExprPutRow.holds Try.pinned (OpenSpec.ofChange fnExactExprPutWrong)

/-- 'laws.FnExactSharedPaths': WHATEVER THE INPUT: true; the input reads as it did. -/
def fnExactSharedPathsSpec : ChangeSpec := { name := "fnExactSharedPaths", fn := fun _ => fun
  | [d1, d2] => { results := [.lit (.bool true)], args := [d1, d2] }
  | _ => none }
def fnExactSharedPathsRow : OpenClaim := { program := "ytccdgppplkfjfaa", sum := "feb1a89fd7459b2d8c30b8f68d72e09bac4b251676b0c2cc8fb9515686a08506", func := "loop.example/turnedsafely/laws.FnExactSharedPaths", spec := "fnExactSharedPaths", inPlace := ["internal/bytealg.IndexByteString", "internal/bytealg.IndexString"], unfollowed := true, recurses := true, named := ["internal/bytealg.MaxLen"], loops := true, apart := false }
def FnExactSharedPathsSaid : Prop := fnExactSharedPathsRow.holds Try.pinned (OpenSpec.ofChange fnExactSharedPathsSpec)

/-- ITS FALSE NEIGHBOUR: 'it returns false'. Refute it at one input. -/
def fnExactSharedPathsWrong : ChangeSpec := { name := "fnExactSharedPaths", fn := fun _ => fun
  | [d1, d2] => { results := [.lit (.bool false)], args := [d1, d2] }
  | _ => none }
def FnExactSharedPathsWrongFalsely : Prop := fnExactSharedPathsRow.holds Try.pinned (OpenSpec.ofChange fnExactSharedPathsWrong)

/-- 'laws.FnExactSharedBest': WHATEVER THE INPUT: true; the input reads as it did. -/
def fnExactSharedBestSpec : ChangeSpec := { name := "fnExactSharedBest", fn := fun _ => fun
  | [d] => { results := [.lit (.bool true)], args := [d] }
  | _ => none }
def fnExactSharedBestRow : OpenClaim := { program := "ytccdgppplkfjfaa", sum := "feb1a89fd7459b2d8c30b8f68d72e09bac4b251676b0c2cc8fb9515686a08506", func := "loop.example/turnedsafely/laws.FnExactSharedBest", spec := "fnExactSharedBest", inPlace := ["internal/bytealg.IndexByteString", "internal/bytealg.IndexString"], unfollowed := true, recurses := true, named := ["internal/bytealg.MaxLen"], loops := true, apart := false }
def FnExactSharedBestSaid : Prop := fnExactSharedBestRow.holds Try.pinned (OpenSpec.ofChange fnExactSharedBestSpec)

/-- ITS FALSE NEIGHBOUR: 'it returns false'. Refute it at one input. -/
def fnExactSharedBestWrong : ChangeSpec := { name := "fnExactSharedBest", fn := fun _ => fun
  | [d] => { results := [.lit (.bool false)], args := [d] }
  | _ => none }
def FnExactSharedBestWrongFalsely : Prop := fnExactSharedBestRow.holds Try.pinned (OpenSpec.ofChange fnExactSharedBestWrong)

/-- 'laws.FnExactSimpleRule': WHATEVER THE INPUT: true; the input reads as it did. -/
def fnExactSimpleRuleSpec : ChangeSpec := { name := "fnExactSimpleRule", fn := fun _ => fun
  | [d] => { results := [.lit (.bool true)], args := [d] }
  | _ => none }
def fnExactSimpleRuleRow : OpenClaim := { program := "ytccdgppplkfjfaa", sum := "feb1a89fd7459b2d8c30b8f68d72e09bac4b251676b0c2cc8fb9515686a08506", func := "loop.example/turnedsafely/laws.FnExactSimpleRule", spec := "fnExactSimpleRule", inPlace := ["internal/bytealg.IndexByteString", "internal/bytealg.IndexString"], unfollowed := true, recurses := true, named := ["internal/bytealg.MaxLen"], loops := true, apart := false }
def FnExactSimpleRuleSaid : Prop := fnExactSimpleRuleRow.holds Try.pinned (OpenSpec.ofChange fnExactSimpleRuleSpec)

/-- ITS FALSE NEIGHBOUR: 'it returns false'. Refute it at one input. -/
def fnExactSimpleRuleWrong : ChangeSpec := { name := "fnExactSimpleRule", fn := fun _ => fun
  | [d] => { results := [.lit (.bool false)], args := [d] }
  | _ => none }
def FnExactSimpleRuleWrongFalsely : Prop := fnExactSimpleRuleRow.holds Try.pinned (OpenSpec.ofChange fnExactSimpleRuleWrong)

/- THE SECOND FORM. 'bulk': how many values and letters a reading holds, each counted each time it is reached (what is shared counts as often as it is met; a slice's spare places count too). A statement '..UptoSaid' is the law's where the arguments, and the package variables that the reading takes, are together of bulk at most 1048576: NARROWER than '..Said'. Prove '..Said' where nothing that the law and all that it calls make is longer than what came in: it says more and counts as full. Else prove '..UptoSaid'. A law counts once. -/
mutual
def uptoBulk {H : Type} : DataW H → Nat
  | .lit (.string bytes) => bytes.length + 1
  | .lit _ => 1
  | .nil => 1
  | .ptr d => uptoBulk d + 1
  | .slice elems spare => uptoBulkAll elems + uptoBulkAll spare + 1
  | .agg parts => uptoBulkAll parts + 1
  | .iface _ d => uptoBulk d + 1
  | .map entries => uptoBulkEntries entries + 1
  | .held _ => 1
def uptoBulkAll {H : Type} : List (DataW H) → Nat
  | [] => 0
  | d :: r => uptoBulk d + uptoBulkAll r
def uptoBulkEntries {H : Type} : List (Lit × DataW H) → Nat
  | [] => 0
  | x :: r => uptoBulkEntry x + uptoBulkEntries r
def uptoBulkEntry {H : Type} : Lit × DataW H → Nat
  | (.string bytes, d) => bytes.length + uptoBulk d + 1
  | (_, d) => uptoBulk d + 1
 end
def uptoSmall : (H : Type) → List (DataW H) → Bool := fun _ ds => decide (uptoBulkAll ds ≤ 1048576)
def OpenSpec.upto (s : _root_.Go.ChangeSpec) : _root_.Go.OpenSpec := { _root_.Go.OpenSpec.ofChange s with cond := some uptoSmall }

/-- 'laws.FnExactExprPaths', WHERE WHAT IT READS IS OF BULK AT MOST 1048576: true; the input reads as it did. -/
def fnExactExprPathsUptoRow : OpenClaim := { program := "ytccdgppplkfjfaa", sum := "feb1a89fd7459b2d8c30b8f68d72e09bac4b251676b0c2cc8fb9515686a08506", func := "loop.example/turnedsafely/laws.FnExactExprPaths", spec := "fnExactExprPaths", inPlace := ["internal/bytealg.IndexByteString", "internal/bytealg.IndexString"], recurses := true, named := ["internal/bytealg.MaxLen"], loops := true, apart := false, narrowed := true }
def FnExactExprPathsUptoSaid : Prop := fnExactExprPathsUptoRow.holds Try.pinned (OpenSpec.upto fnExactExprPathsSpec)

/-- 'laws.FnExactFreeNames', WHERE WHAT IT READS IS OF BULK AT MOST 1048576: true; the input reads as it did. -/
def fnExactFreeNamesUptoRow : OpenClaim := { program := "ytccdgppplkfjfaa", sum := "feb1a89fd7459b2d8c30b8f68d72e09bac4b251676b0c2cc8fb9515686a08506", func := "loop.example/turnedsafely/laws.FnExactFreeNames", spec := "fnExactFreeNames", inPlace := ["internal/bytealg.IndexByteString", "internal/bytealg.IndexString"], recurses := true, named := ["internal/bytealg.MaxLen"], loops := true, apart := false, narrowed := true }
def FnExactFreeNamesUptoSaid : Prop := fnExactFreeNamesUptoRow.holds Try.pinned (OpenSpec.upto fnExactFreeNamesSpec)

/-- 'laws.FnExactExprAt', WHERE WHAT IT READS IS OF BULK AT MOST 1048576: true; the input reads as it did. -/
def fnExactExprAtUptoRow : OpenClaim := { program := "ytccdgppplkfjfaa", sum := "feb1a89fd7459b2d8c30b8f68d72e09bac4b251676b0c2cc8fb9515686a08506", func := "loop.example/turnedsafely/laws.FnExactExprAt", spec := "fnExactExprAt", inPlace := ["internal/bytealg.IndexByteString", "internal/bytealg.IndexString"], recurses := true, named := ["internal/bytealg.MaxLen"], loops := true, apart := false, narrowed := true }
def FnExactExprAtUptoSaid : Prop := fnExactExprAtUptoRow.holds Try.pinned (OpenSpec.upto fnExactExprAtSpec)

/-- 'laws.FnExactLocalsAt', WHERE WHAT IT READS IS OF BULK AT MOST 1048576: true; the input reads as it did. -/
def fnExactLocalsAtUptoRow : OpenClaim := { program := "ytccdgppplkfjfaa", sum := "feb1a89fd7459b2d8c30b8f68d72e09bac4b251676b0c2cc8fb9515686a08506", func := "loop.example/turnedsafely/laws.FnExactLocalsAt", spec := "fnExactLocalsAt", inPlace := ["internal/bytealg.IndexByteString", "internal/bytealg.IndexString"], recurses := true, named := ["internal/bytealg.MaxLen"], loops := true, apart := false, narrowed := true }
def FnExactLocalsAtUptoSaid : Prop := fnExactLocalsAtUptoRow.holds Try.pinned (OpenSpec.upto fnExactLocalsAtSpec)

/-- 'laws.FnExactExprPut', WHERE WHAT IT READS IS OF BULK AT MOST 1048576: true; the input reads as it did. -/
def fnExactExprPutUptoRow : OpenClaim := { program := "ytccdgppplkfjfaa", sum := "feb1a89fd7459b2d8c30b8f68d72e09bac4b251676b0c2cc8fb9515686a08506", func := "loop.example/turnedsafely/laws.FnExactExprPut", spec := "fnExactExprPut", inPlace := ["internal/bytealg.IndexByteString", "internal/bytealg.IndexString"], recurses := true, named := ["internal/bytealg.MaxLen"], loops := true, apart := false, narrowed := true }
def FnExactExprPutUptoSaid : Prop := fnExactExprPutUptoRow.holds Try.pinned (OpenSpec.upto fnExactExprPutSpec)

/-- 'laws.FnExactSharedPaths', WHERE WHAT IT READS IS OF BULK AT MOST 1048576: true; the input reads as it did. -/
def fnExactSharedPathsUptoRow : OpenClaim := { program := "ytccdgppplkfjfaa", sum := "feb1a89fd7459b2d8c30b8f68d72e09bac4b251676b0c2cc8fb9515686a08506", func := "loop.example/turnedsafely/laws.FnExactSharedPaths", spec := "fnExactSharedPaths", inPlace := ["internal/bytealg.IndexByteString", "internal/bytealg.IndexString"], unfollowed := true, recurses := true, named := ["internal/bytealg.MaxLen"], loops := true, apart := false, narrowed := true }
def FnExactSharedPathsUptoSaid : Prop := fnExactSharedPathsUptoRow.holds Try.pinned (OpenSpec.upto fnExactSharedPathsSpec)

/-- 'laws.FnExactSharedBest', WHERE WHAT IT READS IS OF BULK AT MOST 1048576: true; the input reads as it did. -/
def fnExactSharedBestUptoRow : OpenClaim := { program := "ytccdgppplkfjfaa", sum := "feb1a89fd7459b2d8c30b8f68d72e09bac4b251676b0c2cc8fb9515686a08506", func := "loop.example/turnedsafely/laws.FnExactSharedBest", spec := "fnExactSharedBest", inPlace := ["internal/bytealg.IndexByteString", "internal/bytealg.IndexString"], unfollowed := true, recurses := true, named := ["internal/bytealg.MaxLen"], loops := true, apart := false, narrowed := true }
def FnExactSharedBestUptoSaid : Prop := fnExactSharedBestUptoRow.holds Try.pinned (OpenSpec.upto fnExactSharedBestSpec)

/-- 'laws.FnExactSimpleRule', WHERE WHAT IT READS IS OF BULK AT MOST 1048576: true; the input reads as it did. -/
def fnExactSimpleRuleUptoRow : OpenClaim := { program := "ytccdgppplkfjfaa", sum := "feb1a89fd7459b2d8c30b8f68d72e09bac4b251676b0c2cc8fb9515686a08506", func := "loop.example/turnedsafely/laws.FnExactSimpleRule", spec := "fnExactSimpleRule", inPlace := ["internal/bytealg.IndexByteString", "internal/bytealg.IndexString"], unfollowed := true, recurses := true, named := ["internal/bytealg.MaxLen"], loops := true, apart := false, narrowed := true }
def FnExactSimpleRuleUptoSaid : Prop := fnExactSimpleRuleUptoRow.holds Try.pinned (OpenSpec.upto fnExactSimpleRuleSpec)

end Rows
end Go.Proofs.Ytccdgppplkfjfaa
