/-
  No cell of these rows narrows 'for every input' (looked for: loops, veiled, ifaces, maps, wideKeys, modest, calm, conditions, laid).
  DERIVED. THE GIVEN ROWS OF THIS SEAT. 7 by the template 'for every input the law returns true; each argument reads behind the call as it read before'; 0 by the template 'total and deterministic' (their statements: YteieleejhbljfaaTotals.lean).
  GIVEN WITH THE SEED: the statements are not yours to turn. If you find one false, say at which input.
  Laid BY PROGRAM, IN A SANDBOX (cutbox-rows.mjs): the forced cells as the released guide's own fill.sh prints them over the translation 841b16fffa86bbfa… (all of the seat's roots in one cut). By AI agents, Wed Nov 11 2026. No macro, syntax, notation, axiom, sorry.
-/
import Derived.Test.YteieleejhbljfaaChecked
import GoSem.Claim
import GoSem.ClaimJoined
import GoSem.ClaimMapViews
import Derived.JoinedTies
import Derived.KernelRfl
namespace Go.Proofs.Yteieleejhbljfaa
/- THE CELL 'sum', in the pinned program and in every row, IS THE sha256 OF THE DUMP (.gsa) THAT YteieleejhbljfaaProg.lean LOADS. Nothing in Lean hashes anything: it is a label: what it is worth is what the hold of that sum in a sandbox is worth. -/
noncomputable def Try.pinned : Pinned := { name := "yteieleejhbljfaa", sum := "841b16fffa86bbfa0ee5436332707281d88704115d717b6a4a0ab11c7f44e149", checked := Try.checked }
namespace Rows
def none {H : Type} : Left H := { results := [], args := [] }

/-- 'laws.FnExprSize': WHATEVER THE INPUT: true; the input reads as it did. -/
def fnExprSizeSpec : ChangeSpec := { name := "fnExprSize", fn := fun _ => fun
  | [d] => { results := [.lit (.bool true)], args := [d] }
  | _ => none }
def fnExprSizeRow : OpenClaim := { program := "yteieleejhbljfaa", sum := "841b16fffa86bbfa0ee5436332707281d88704115d717b6a4a0ab11c7f44e149", func := "loop.example/turnedsafely/laws.FnExprSize", spec := "fnExprSize", inPlace := ["internal/bytealg.IndexByteString", "internal/bytealg.IndexString"], recurses := true, named := ["internal/bytealg.MaxLen"], apart := false }
def FnExprSizeSaid : Prop := fnExprSizeRow.holds Try.pinned (OpenSpec.ofChange fnExprSizeSpec)

/-- ITS FALSE NEIGHBOUR: 'it returns false'. Refute it at one input. -/
def fnExprSizeWrong : ChangeSpec := { name := "fnExprSize", fn := fun _ => fun
  | [d] => { results := [.lit (.bool false)], args := [d] }
  | _ => none }
def FnExprSizeWrongFalsely : Prop := fnExprSizeRow.holds Try.pinned (OpenSpec.ofChange fnExprSizeWrong)

/-- 'laws.FnExprPaths': WHATEVER THE INPUT: true; the input reads as it did. -/
def fnExprPathsSpec : ChangeSpec := { name := "fnExprPaths", fn := fun _ => fun
  | [d] => { results := [.lit (.bool true)], args := [d] }
  | _ => none }
def fnExprPathsRow : OpenClaim := { program := "yteieleejhbljfaa", sum := "841b16fffa86bbfa0ee5436332707281d88704115d717b6a4a0ab11c7f44e149", func := "loop.example/turnedsafely/laws.FnExprPaths", spec := "fnExprPaths", inPlace := ["internal/bytealg.IndexByteString", "internal/bytealg.IndexString"], recurses := true, named := ["internal/bytealg.MaxLen"], apart := false }
def FnExprPathsSaid : Prop := fnExprPathsRow.holds Try.pinned (OpenSpec.ofChange fnExprPathsSpec)

/-- ITS FALSE NEIGHBOUR: 'it returns false'. Refute it at one input. -/
def fnExprPathsWrong : ChangeSpec := { name := "fnExprPaths", fn := fun _ => fun
  | [d] => { results := [.lit (.bool false)], args := [d] }
  | _ => none }
def FnExprPathsWrongFalsely : Prop := fnExprPathsRow.holds Try.pinned (OpenSpec.ofChange fnExprPathsWrong)

/-- 'laws.FnFreeNames': WHATEVER THE INPUT: true; the input reads as it did. -/
def fnFreeNamesSpec : ChangeSpec := { name := "fnFreeNames", fn := fun _ => fun
  | [d] => { results := [.lit (.bool true)], args := [d] }
  | _ => none }
def fnFreeNamesRow : OpenClaim := { program := "yteieleejhbljfaa", sum := "841b16fffa86bbfa0ee5436332707281d88704115d717b6a4a0ab11c7f44e149", func := "loop.example/turnedsafely/laws.FnFreeNames", spec := "fnFreeNames", inPlace := ["internal/bytealg.IndexByteString", "internal/bytealg.IndexString"], recurses := true, named := ["internal/bytealg.MaxLen"], apart := false }
def FnFreeNamesSaid : Prop := fnFreeNamesRow.holds Try.pinned (OpenSpec.ofChange fnFreeNamesSpec)

/-- ITS FALSE NEIGHBOUR: 'it returns false'. Refute it at one input. -/
def fnFreeNamesWrong : ChangeSpec := { name := "fnFreeNames", fn := fun _ => fun
  | [d] => { results := [.lit (.bool false)], args := [d] }
  | _ => none }
def FnFreeNamesWrongFalsely : Prop := fnFreeNamesRow.holds Try.pinned (OpenSpec.ofChange fnFreeNamesWrong)

/-- 'laws.FnLocalsAt': WHATEVER THE INPUT: true; the input reads as it did. -/
def fnLocalsAtSpec : ChangeSpec := { name := "fnLocalsAt", fn := fun _ => fun
  | [d] => { results := [.lit (.bool true)], args := [d] }
  | _ => none }
def fnLocalsAtRow : OpenClaim := { program := "yteieleejhbljfaa", sum := "841b16fffa86bbfa0ee5436332707281d88704115d717b6a4a0ab11c7f44e149", func := "loop.example/turnedsafely/laws.FnLocalsAt", spec := "fnLocalsAt", inPlace := ["internal/bytealg.IndexByteString", "internal/bytealg.IndexString"], recurses := true, named := ["internal/bytealg.MaxLen"], apart := false }
def FnLocalsAtSaid : Prop := fnLocalsAtRow.holds Try.pinned (OpenSpec.ofChange fnLocalsAtSpec)

/-- ITS FALSE NEIGHBOUR: 'it returns false'. Refute it at one input. -/
def fnLocalsAtWrong : ChangeSpec := { name := "fnLocalsAt", fn := fun _ => fun
  | [d] => { results := [.lit (.bool false)], args := [d] }
  | _ => none }
def FnLocalsAtWrongFalsely : Prop := fnLocalsAtRow.holds Try.pinned (OpenSpec.ofChange fnLocalsAtWrong)

/-- 'laws.FnExprAt': WHATEVER THE INPUT: true; the input reads as it did. -/
def fnExprAtSpec : ChangeSpec := { name := "fnExprAt", fn := fun _ => fun
  | [d] => { results := [.lit (.bool true)], args := [d] }
  | _ => none }
def fnExprAtRow : OpenClaim := { program := "yteieleejhbljfaa", sum := "841b16fffa86bbfa0ee5436332707281d88704115d717b6a4a0ab11c7f44e149", func := "loop.example/turnedsafely/laws.FnExprAt", spec := "fnExprAt", inPlace := ["internal/bytealg.IndexByteString", "internal/bytealg.IndexString"], unfollowed := true, recurses := true, named := ["internal/bytealg.MaxLen"], apart := false }
def FnExprAtSaid : Prop := fnExprAtRow.holds Try.pinned (OpenSpec.ofChange fnExprAtSpec)

/-- ITS FALSE NEIGHBOUR: 'it returns false'. Refute it at one input. -/
def fnExprAtWrong : ChangeSpec := { name := "fnExprAt", fn := fun _ => fun
  | [d] => { results := [.lit (.bool false)], args := [d] }
  | _ => none }
def FnExprAtWrongFalsely : Prop := fnExprAtRow.holds Try.pinned (OpenSpec.ofChange fnExprAtWrong)

/-- 'laws.FnExprPut': WHATEVER THE INPUT: true; the input reads as it did. -/
def fnExprPutSpec : ChangeSpec := { name := "fnExprPut", fn := fun _ => fun
  | [d] => { results := [.lit (.bool true)], args := [d] }
  | _ => none }
def fnExprPutRow : OpenClaim := { program := "yteieleejhbljfaa", sum := "841b16fffa86bbfa0ee5436332707281d88704115d717b6a4a0ab11c7f44e149", func := "loop.example/turnedsafely/laws.FnExprPut", spec := "fnExprPut", inPlace := ["internal/bytealg.IndexByteString", "internal/bytealg.IndexString"], unfollowed := true, recurses := true, named := ["internal/bytealg.MaxLen"], apart := false }
def FnExprPutSaid : Prop := fnExprPutRow.holds Try.pinned (OpenSpec.ofChange fnExprPutSpec)

/-- ITS FALSE NEIGHBOUR: 'it returns false'. Refute it at one input. -/
def fnExprPutWrong : ChangeSpec := { name := "fnExprPut", fn := fun _ => fun
  | [d] => { results := [.lit (.bool false)], args := [d] }
  | _ => none }
def FnExprPutWrongFalsely : Prop := fnExprPutRow.holds Try.pinned (OpenSpec.ofChange fnExprPutWrong)

/-- 'laws.FnExprLike': WHATEVER THE INPUT: true; the input reads as it did. -/
def fnExprLikeSpec : ChangeSpec := { name := "fnExprLike", fn := fun _ => fun
  | [d] => { results := [.lit (.bool true)], args := [d] }
  | _ => none }
def fnExprLikeRow : OpenClaim := { program := "yteieleejhbljfaa", sum := "841b16fffa86bbfa0ee5436332707281d88704115d717b6a4a0ab11c7f44e149", func := "loop.example/turnedsafely/laws.FnExprLike", spec := "fnExprLike", inPlace := ["internal/bytealg.IndexByteString", "internal/bytealg.IndexString"], recurses := true, named := ["internal/bytealg.MaxLen"], apart := false }
def FnExprLikeSaid : Prop := fnExprLikeRow.holds Try.pinned (OpenSpec.ofChange fnExprLikeSpec)

/-- ITS FALSE NEIGHBOUR: 'it returns false'. Refute it at one input. -/
def fnExprLikeWrong : ChangeSpec := { name := "fnExprLike", fn := fun _ => fun
  | [d] => { results := [.lit (.bool false)], args := [d] }
  | _ => none }
def FnExprLikeWrongFalsely : Prop := fnExprLikeRow.holds Try.pinned (OpenSpec.ofChange fnExprLikeWrong)

/- THE SECOND FORM. 'bulk': how many values and letters a reading holds, each counted each time it is reached (what is shared counts as often as it is met; a slice's spare places count too). A statement '..UptoSaid' is the law's where the arguments, and the package variables that the reading takes, are together of bulk at most 1048576: NARROWER than '..Said'. Prove '..Said' where nothing that the law and all that it calls make is longer than what came in: it says more and counts as full. Else prove '..UptoSaid'. A law counts once. -/
mutual
def uptoBulk {H : Type} : DataW H → Nat
  | .lit (.string bytes) => bytes.length + 1
  | .lit _ => 1
  | .nil => 1
  | .ptr d => uptoBulk d + 1
  | .slice elems spare => uptoBulkAll elems + uptoBulkAll spare + 1
  | .agg parts => uptoBulkAll parts + 1
  | .iface _ d => uptoBulk d + 1
  | .map entries => uptoBulkEntries entries + 1
  | .held _ => 1
def uptoBulkAll {H : Type} : List (DataW H) → Nat
  | [] => 0
  | d :: r => uptoBulk d + uptoBulkAll r
def uptoBulkEntries {H : Type} : List (Lit × DataW H) → Nat
  | [] => 0
  | x :: r => uptoBulkEntry x + uptoBulkEntries r
def uptoBulkEntry {H : Type} : Lit × DataW H → Nat
  | (.string bytes, d) => bytes.length + uptoBulk d + 1
  | (_, d) => uptoBulk d + 1
 end
def uptoSmall : (H : Type) → List (DataW H) → Bool := fun _ ds => decide (uptoBulkAll ds ≤ 1048576)
def OpenSpec.upto (s : _root_.Go.ChangeSpec) : _root_.Go.OpenSpec := { _root_.Go.OpenSpec.ofChange s with cond := some uptoSmall }

/-- 'laws.FnExprSize', WHERE WHAT IT READS IS OF BULK AT MOST 1048576: true; the input reads as it did. -/
def fnExprSizeUptoRow : OpenClaim := { program := "yteieleejhbljfaa", sum := "841b16fffa86bbfa0ee5436332707281d88704115d717b6a4a0ab11c7f44e149", func := "loop.example/turnedsafely/laws.FnExprSize", spec := "fnExprSize", inPlace := ["internal/bytealg.IndexByteString", "internal/bytealg.IndexString"], recurses := true, named := ["internal/bytealg.MaxLen"], apart := false, narrowed := true }
def FnExprSizeUptoSaid : Prop := fnExprSizeUptoRow.holds Try.pinned (OpenSpec.upto fnExprSizeSpec)

/-- 'laws.FnExprPaths', WHERE WHAT IT READS IS OF BULK AT MOST 1048576: true; the input reads as it did. -/
def fnExprPathsUptoRow : OpenClaim := { program := "yteieleejhbljfaa", sum := "841b16fffa86bbfa0ee5436332707281d88704115d717b6a4a0ab11c7f44e149", func := "loop.example/turnedsafely/laws.FnExprPaths", spec := "fnExprPaths", inPlace := ["internal/bytealg.IndexByteString", "internal/bytealg.IndexString"], recurses := true, named := ["internal/bytealg.MaxLen"], apart := false, narrowed := true }
def FnExprPathsUptoSaid : Prop := fnExprPathsUptoRow.holds Try.pinned (OpenSpec.upto fnExprPathsSpec)

/-- 'laws.FnFreeNames', WHERE WHAT IT READS IS OF BULK AT MOST 1048576: true; the input reads as it did. -/
def fnFreeNamesUptoRow : OpenClaim := { program := "yteieleejhbljfaa", sum := "841b16fffa86bbfa0ee5436332707281d88704115d717b6a4a0ab11c7f44e149", func := "loop.example/turnedsafely/laws.FnFreeNames", spec := "fnFreeNames", inPlace := ["internal/bytealg.IndexByteString", "internal/bytealg.IndexString"], recurses := true, named := ["internal/bytealg.MaxLen"], apart := false, narrowed := true }
def FnFreeNamesUptoSaid : Prop := fnFreeNamesUptoRow.holds Try.pinned (OpenSpec.upto fnFreeNamesSpec)

/-- 'laws.FnLocalsAt', WHERE WHAT IT READS IS OF BULK AT MOST 1048576: true; the input reads as it did. -/
def fnLocalsAtUptoRow : OpenClaim := { program := "yteieleejhbljfaa", sum := "841b16fffa86bbfa0ee5436332707281d88704115d717b6a4a0ab11c7f44e149", func := "loop.example/turnedsafely/laws.FnLocalsAt", spec := "fnLocalsAt", inPlace := ["internal/bytealg.IndexByteString", "internal/bytealg.IndexString"], recurses := true, named := ["internal/bytealg.MaxLen"], apart := false, narrowed := true }
def FnLocalsAtUptoSaid : Prop := fnLocalsAtUptoRow.holds Try.pinned (OpenSpec.upto fnLocalsAtSpec)

/-- 'laws.FnExprAt', WHERE WHAT IT READS IS OF BULK AT MOST 1048576: true; the input reads as it did. -/
def fnExprAtUptoRow : OpenClaim := { program := "yteieleejhbljfaa", sum := "841b16fffa86bbfa0ee5436332707281d88704115d717b6a4a0ab11c7f44e149", func := "loop.example/turnedsafely/laws.FnExprAt", spec := "fnExprAt", inPlace := ["internal/bytealg.IndexByteString", "internal/bytealg.IndexString"], unfollowed := true, recurses := true, named := ["internal/bytealg.MaxLen"], apart := false, narrowed := true }
def FnExprAtUptoSaid : Prop := fnExprAtUptoRow.holds Try.pinned (OpenSpec.upto fnExprAtSpec)

/-- 'laws.FnExprPut', WHERE WHAT IT READS IS OF BULK AT MOST 1048576: true; the input reads as it did. -/
def fnExprPutUptoRow : OpenClaim := { program := "yteieleejhbljfaa", sum := "841b16fffa86bbfa0ee5436332707281d88704115d717b6a4a0ab11c7f44e149", func := "loop.example/turnedsafely/laws.FnExprPut", spec := "fnExprPut", inPlace := ["internal/bytealg.IndexByteString", "internal/bytealg.IndexString"], unfollowed := true, recurses := true, named := ["internal/bytealg.MaxLen"], apart := false, narrowed := true }
def FnExprPutUptoSaid : Prop := fnExprPutUptoRow.holds Try.pinned (OpenSpec.upto fnExprPutSpec)

/-- 'laws.FnExprLike', WHERE WHAT IT READS IS OF BULK AT MOST 1048576: true; the input reads as it did. -/
def fnExprLikeUptoRow : OpenClaim := { program := "yteieleejhbljfaa", sum := "841b16fffa86bbfa0ee5436332707281d88704115d717b6a4a0ab11c7f44e149", func := "loop.example/turnedsafely/laws.FnExprLike", spec := "fnExprLike", inPlace := ["internal/bytealg.IndexByteString", "internal/bytealg.IndexString"], recurses := true, named := ["internal/bytealg.MaxLen"], apart := false, narrowed := true }
def FnExprLikeUptoSaid : Prop := fnExprLikeUptoRow.holds Try.pinned (OpenSpec.upto fnExprLikeSpec)

end Rows
end Go.Proofs.Yteieleejhbljfaa
