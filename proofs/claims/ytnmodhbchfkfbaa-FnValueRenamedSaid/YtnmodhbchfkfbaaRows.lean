/-
  No cell of these rows narrows 'for every input' (looked for: loops, veiled, ifaces, maps, wideKeys, modest, calm, conditions, laid).
  DERIVED. THE GIVEN ROWS OF THIS SEAT. 4 by the template 'for every input the law returns true; each argument reads behind the call as it read before'; 0 by the template 'total and deterministic' (their statements: YtnmodhbchfkfbaaTotals.lean).
  GIVEN WITH THE SEED: the statements are not yours to turn. If you find one false, say at which input.
  Laid BY PROGRAM, IN A SANDBOX (cutbox-rows.mjs): the forced cells as the released guide's own fill.sh prints them over the translation 206a93d1b5c2db1e… (all of the seat's roots in one cut). By AI agents, Wed Nov 11 2026. No macro, syntax, notation, axiom, sorry.
-/
import Derived.Test.YtnmodhbchfkfbaaChecked
import GoSem.Claim
import GoSem.ClaimJoined
import GoSem.ClaimMapViews
import Derived.JoinedTies
import Derived.KernelRfl
namespace Go.Proofs.Ytnmodhbchfkfbaa
/- THE CELL 'sum', in the pinned program and in every row, IS THE sha256 OF THE DUMP (.gsa) THAT YtnmodhbchfkfbaaProg.lean LOADS. Nothing in Lean hashes anything: it is a label: what it is worth is what the hold of that sum in a sandbox is worth. -/
noncomputable def Try.pinned : Pinned := { name := "ytnmodhbchfkfbaa", sum := "206a93d1b5c2db1e77ef9e560fa2d18ec99cea78334c53ac00a3bd185c85e2f1", checked := Try.checked }
namespace Rows
def none {H : Type} : Left H := { results := [], args := [] }

/-- 'laws.FnTypeOk': WHATEVER THE INPUT: true; the input reads as it did. -/
def fnTypeOkSpec : ChangeSpec := { name := "fnTypeOk", fn := fun _ => fun
  | [d] => { results := [.lit (.bool true)], args := [d] }
  | _ => none }
def fnTypeOkRow : OpenClaim := { program := "ytnmodhbchfkfbaa", sum := "206a93d1b5c2db1e77ef9e560fa2d18ec99cea78334c53ac00a3bd185c85e2f1", func := "loop.example/turnedsafely/laws.FnTypeOk", spec := "fnTypeOk", inPlace := ["internal/bytealg.IndexByteString", "internal/bytealg.IndexString"], named := ["internal/bytealg.MaxLen"], apart := false }
def FnTypeOkSaid : Prop := fnTypeOkRow.holds Try.pinned (OpenSpec.ofChange fnTypeOkSpec)

/-- ITS FALSE NEIGHBOUR: 'it returns false'. Refute it at one input. -/
def fnTypeOkWrong : ChangeSpec := { name := "fnTypeOk", fn := fun _ => fun
  | [d] => { results := [.lit (.bool false)], args := [d] }
  | _ => none }
def FnTypeOkWrongFalsely : Prop := fnTypeOkRow.holds Try.pinned (OpenSpec.ofChange fnTypeOkWrong)

/-- 'laws.FnTypeItem': WHATEVER THE INPUT: true; the input reads as it did. -/
def fnTypeItemSpec : ChangeSpec := { name := "fnTypeItem", fn := fun _ => fun
  | [d] => { results := [.lit (.bool true)], args := [d] }
  | _ => none }
def fnTypeItemRow : OpenClaim := { program := "ytnmodhbchfkfbaa", sum := "206a93d1b5c2db1e77ef9e560fa2d18ec99cea78334c53ac00a3bd185c85e2f1", func := "loop.example/turnedsafely/laws.FnTypeItem", spec := "fnTypeItem", inPlace := ["internal/bytealg.IndexByteString", "internal/bytealg.IndexString"], named := ["internal/bytealg.MaxLen"], apart := false }
def FnTypeItemSaid : Prop := fnTypeItemRow.holds Try.pinned (OpenSpec.ofChange fnTypeItemSpec)

/-- ITS FALSE NEIGHBOUR: 'it returns false'. Refute it at one input. -/
def fnTypeItemWrong : ChangeSpec := { name := "fnTypeItem", fn := fun _ => fun
  | [d] => { results := [.lit (.bool false)], args := [d] }
  | _ => none }
def FnTypeItemWrongFalsely : Prop := fnTypeItemRow.holds Try.pinned (OpenSpec.ofChange fnTypeItemWrong)

/-- 'laws.FnTypeList': WHATEVER THE INPUT: true; the input reads as it did. -/
def fnTypeListSpec : ChangeSpec := { name := "fnTypeList", fn := fun _ => fun
  | [d] => { results := [.lit (.bool true)], args := [d] }
  | _ => none }
def fnTypeListRow : OpenClaim := { program := "ytnmodhbchfkfbaa", sum := "206a93d1b5c2db1e77ef9e560fa2d18ec99cea78334c53ac00a3bd185c85e2f1", func := "loop.example/turnedsafely/laws.FnTypeList", spec := "fnTypeList", inPlace := ["internal/bytealg.IndexByteString", "internal/bytealg.IndexString"], named := ["internal/bytealg.MaxLen"], apart := false }
def FnTypeListSaid : Prop := fnTypeListRow.holds Try.pinned (OpenSpec.ofChange fnTypeListSpec)

/-- ITS FALSE NEIGHBOUR: 'it returns false'. Refute it at one input. -/
def fnTypeListWrong : ChangeSpec := { name := "fnTypeList", fn := fun _ => fun
  | [d] => { results := [.lit (.bool false)], args := [d] }
  | _ => none }
def FnTypeListWrongFalsely : Prop := fnTypeListRow.holds Try.pinned (OpenSpec.ofChange fnTypeListWrong)

/-- 'laws.FnValueRenamed': WHATEVER THE INPUT: true; the input reads as it did. -/
def fnValueRenamedSpec : ChangeSpec := { name := "fnValueRenamed", fn := fun _ => fun
  | [d] => { results := [.lit (.bool true)], args := [d] }
  | _ => none }
def fnValueRenamedRow : OpenClaim := { program := "ytnmodhbchfkfbaa", sum := "206a93d1b5c2db1e77ef9e560fa2d18ec99cea78334c53ac00a3bd185c85e2f1", func := "loop.example/turnedsafely/laws.FnValueRenamed", spec := "fnValueRenamed", inPlace := ["internal/bytealg.IndexByteString", "internal/bytealg.IndexString"], unfollowed := true, recurses := true, named := ["internal/bytealg.MaxLen"], apart := false }
def FnValueRenamedSaid : Prop := fnValueRenamedRow.holds Try.pinned (OpenSpec.ofChange fnValueRenamedSpec)

/-- ITS FALSE NEIGHBOUR: 'it returns false'. Refute it at one input. -/
def fnValueRenamedWrong : ChangeSpec := { name := "fnValueRenamed", fn := fun _ => fun
  | [d] => { results := [.lit (.bool false)], args := [d] }
  | _ => none }
def FnValueRenamedWrongFalsely : Prop := fnValueRenamedRow.holds Try.pinned (OpenSpec.ofChange fnValueRenamedWrong)

/- THE SECOND FORM. 'bulk': how many values and letters a reading holds, each counted each time it is reached (what is shared counts as often as it is met; a slice's spare places count too). A statement '..UptoSaid' is the law's where the arguments, and the package variables that the reading takes, are together of bulk at most 1048576: NARROWER than '..Said'. Prove '..Said' where nothing that the law and all that it calls make is longer than what came in: it says more and counts as full. Else prove '..UptoSaid'. A law counts once. -/
mutual
def uptoBulk {H : Type} : DataW H → Nat
  | .lit (.string bytes) => bytes.length + 1
  | .lit _ => 1
  | .nil => 1
  | .ptr d => uptoBulk d + 1
  | .slice elems spare => uptoBulkAll elems + uptoBulkAll spare + 1
  | .agg parts => uptoBulkAll parts + 1
  | .iface _ d => uptoBulk d + 1
  | .map entries => uptoBulkEntries entries + 1
  | .held _ => 1
def uptoBulkAll {H : Type} : List (DataW H) → Nat
  | [] => 0
  | d :: r => uptoBulk d + uptoBulkAll r
def uptoBulkEntries {H : Type} : List (Lit × DataW H) → Nat
  | [] => 0
  | x :: r => uptoBulkEntry x + uptoBulkEntries r
def uptoBulkEntry {H : Type} : Lit × DataW H → Nat
  | (.string bytes, d) => bytes.length + uptoBulk d + 1
  | (_, d) => uptoBulk d + 1
 end
def uptoSmall : (H : Type) → List (DataW H) → Bool := fun _ ds => decide (uptoBulkAll ds ≤ 1048576)
def OpenSpec.upto (s : _root_.Go.ChangeSpec) : _root_.Go.OpenSpec := { _root_.Go.OpenSpec.ofChange s with cond := some uptoSmall }

/-- 'laws.FnTypeOk', WHERE WHAT IT READS IS OF BULK AT MOST 1048576: true; the input reads as it did. -/
def fnTypeOkUptoRow : OpenClaim := { program := "ytnmodhbchfkfbaa", sum := "206a93d1b5c2db1e77ef9e560fa2d18ec99cea78334c53ac00a3bd185c85e2f1", func := "loop.example/turnedsafely/laws.FnTypeOk", spec := "fnTypeOk", inPlace := ["internal/bytealg.IndexByteString", "internal/bytealg.IndexString"], named := ["internal/bytealg.MaxLen"], apart := false, narrowed := true }
def FnTypeOkUptoSaid : Prop := fnTypeOkUptoRow.holds Try.pinned (OpenSpec.upto fnTypeOkSpec)

/-- 'laws.FnTypeItem', WHERE WHAT IT READS IS OF BULK AT MOST 1048576: true; the input reads as it did. -/
def fnTypeItemUptoRow : OpenClaim := { program := "ytnmodhbchfkfbaa", sum := "206a93d1b5c2db1e77ef9e560fa2d18ec99cea78334c53ac00a3bd185c85e2f1", func := "loop.example/turnedsafely/laws.FnTypeItem", spec := "fnTypeItem", inPlace := ["internal/bytealg.IndexByteString", "internal/bytealg.IndexString"], named := ["internal/bytealg.MaxLen"], apart := false, narrowed := true }
def FnTypeItemUptoSaid : Prop := fnTypeItemUptoRow.holds Try.pinned (OpenSpec.upto fnTypeItemSpec)

/-- 'laws.FnTypeList', WHERE WHAT IT READS IS OF BULK AT MOST 1048576: true; the input reads as it did. -/
def fnTypeListUptoRow : OpenClaim := { program := "ytnmodhbchfkfbaa", sum := "206a93d1b5c2db1e77ef9e560fa2d18ec99cea78334c53ac00a3bd185c85e2f1", func := "loop.example/turnedsafely/laws.FnTypeList", spec := "fnTypeList", inPlace := ["internal/bytealg.IndexByteString", "internal/bytealg.IndexString"], named := ["internal/bytealg.MaxLen"], apart := false, narrowed := true }
def FnTypeListUptoSaid : Prop := fnTypeListUptoRow.holds Try.pinned (OpenSpec.upto fnTypeListSpec)

/-- 'laws.FnValueRenamed', WHERE WHAT IT READS IS OF BULK AT MOST 1048576: true; the input reads as it did. -/
def fnValueRenamedUptoRow : OpenClaim := { program := "ytnmodhbchfkfbaa", sum := "206a93d1b5c2db1e77ef9e560fa2d18ec99cea78334c53ac00a3bd185c85e2f1", func := "loop.example/turnedsafely/laws.FnValueRenamed", spec := "fnValueRenamed", inPlace := ["internal/bytealg.IndexByteString", "internal/bytealg.IndexString"], unfollowed := true, recurses := true, named := ["internal/bytealg.MaxLen"], apart := false, narrowed := true }
def FnValueRenamedUptoSaid : Prop := fnValueRenamedUptoRow.holds Try.pinned (OpenSpec.upto fnValueRenamedSpec)

end Rows
end Go.Proofs.Ytnmodhbchfkfbaa
