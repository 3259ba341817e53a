/-
  NARROWER THAN 'FOR EVERY INPUT', by the rows' own cells (each row's printed sentence says how): FnExactValueOk: loops · FnExactValueSame: loops · FnExactExprOk: loops · FnExactExprSize: loops · FnExactExprSame: loops · FnExactValueRenamed: loops · FnExactExprLike: loops · FnExactExprCalls: loops.
  DERIVED. THE GIVEN ROWS OF THIS SEAT. 12 by the template 'for every input the law returns true; each argument reads behind the call as it read before'; 0 by the template 'total and deterministic' (their statements: YtgfdkjpjijajnaaTotals.lean).
  GIVEN WITH THE SEED: the statements are not yours to turn. If you find one false, say at which input.
  Laid BY PROGRAM, IN A SANDBOX (cutbox-rows.mjs): the forced cells as the released guide's own fill.sh prints them over the translation e4c437260b5f30b0… (all of the seat's roots in one cut). By AI agents, Wed Nov 11 2026. No macro, syntax, notation, axiom, sorry.
-/
import Derived.Test.YtgfdkjpjijajnaaChecked
import GoSem.Claim
import GoSem.ClaimJoined
import GoSem.ClaimMapViews
import Derived.JoinedTies
import Derived.KernelRfl
namespace Go.Proofs.Ytgfdkjpjijajnaa
/- THE CELL 'sum', in the pinned program and in every row, IS THE sha256 OF THE DUMP (.gsa) THAT YtgfdkjpjijajnaaProg.lean LOADS. Nothing in Lean hashes anything: it is a label: what it is worth is what the hold of that sum in a sandbox is worth. -/
noncomputable def Try.pinned : Pinned := { name := "ytgfdkjpjijajnaa", sum := "e4c437260b5f30b0b9f91cd829758ef8100b309b8f8342e53ac0169563703aef", checked := Try.checked }
namespace Rows
def none {H : Type} : Left H := { results := [], args := [] }

/-- 'laws.FnExactConstants': WHATEVER THE INPUT: true; the input reads as it did. -/
def fnExactConstantsSpec : ChangeSpec := { name := "fnExactConstants", fn := fun _ => fun
  | [] => { results := [.lit (.bool true)], args := [] }
  | _ => none }
def fnExactConstantsRow : OpenClaim := { program := "ytgfdkjpjijajnaa", sum := "e4c437260b5f30b0b9f91cd829758ef8100b309b8f8342e53ac0169563703aef", func := "loop.example/turnedsafely/laws.FnExactConstants", spec := "fnExactConstants", apart := false }
def FnExactConstantsSaid : Prop := fnExactConstantsRow.holds Try.pinned (OpenSpec.ofChange fnExactConstantsSpec)

/-- ITS FALSE NEIGHBOUR: 'it returns false'. Refute it at one input. -/
def fnExactConstantsWrong : ChangeSpec := { name := "fnExactConstants", fn := fun _ => fun
  | [] => { results := [.lit (.bool false)], args := [] }
  | _ => none }
def FnExactConstantsWrongFalsely : Prop := fnExactConstantsRow.holds Try.pinned (OpenSpec.ofChange fnExactConstantsWrong)

/-- 'laws.FnExactTypeOk': WHATEVER THE INPUT: true; the input reads as it did. -/
def fnExactTypeOkSpec : ChangeSpec := { name := "fnExactTypeOk", fn := fun _ => fun
  | [d] => { results := [.lit (.bool true)], args := [d] }
  | _ => none }
def fnExactTypeOkRow : OpenClaim := { program := "ytgfdkjpjijajnaa", sum := "e4c437260b5f30b0b9f91cd829758ef8100b309b8f8342e53ac0169563703aef", func := "loop.example/turnedsafely/laws.FnExactTypeOk", spec := "fnExactTypeOk", inPlace := ["internal/bytealg.IndexByteString", "internal/bytealg.IndexString"], named := ["internal/bytealg.MaxLen"], apart := false }
def FnExactTypeOkSaid : Prop := fnExactTypeOkRow.holds Try.pinned (OpenSpec.ofChange fnExactTypeOkSpec)

/-- ITS FALSE NEIGHBOUR: 'it returns false'. Refute it at one input. -/
def fnExactTypeOkWrong : ChangeSpec := { name := "fnExactTypeOk", fn := fun _ => fun
  | [d] => { results := [.lit (.bool false)], args := [d] }
  | _ => none }
def FnExactTypeOkWrongFalsely : Prop := fnExactTypeOkRow.holds Try.pinned (OpenSpec.ofChange fnExactTypeOkWrong)

/-- 'laws.FnExactTypeItem': WHATEVER THE INPUT: true; the input reads as it did. -/
def fnExactTypeItemSpec : ChangeSpec := { name := "fnExactTypeItem", fn := fun _ => fun
  | [d] => { results := [.lit (.bool true)], args := [d] }
  | _ => none }
def fnExactTypeItemRow : OpenClaim := { program := "ytgfdkjpjijajnaa", sum := "e4c437260b5f30b0b9f91cd829758ef8100b309b8f8342e53ac0169563703aef", func := "loop.example/turnedsafely/laws.FnExactTypeItem", spec := "fnExactTypeItem", inPlace := ["internal/bytealg.IndexByteString", "internal/bytealg.IndexString"], named := ["internal/bytealg.MaxLen"], apart := false }
def FnExactTypeItemSaid : Prop := fnExactTypeItemRow.holds Try.pinned (OpenSpec.ofChange fnExactTypeItemSpec)

/-- ITS FALSE NEIGHBOUR: 'it returns false'. Refute it at one input. -/
def fnExactTypeItemWrong : ChangeSpec := { name := "fnExactTypeItem", fn := fun _ => fun
  | [d] => { results := [.lit (.bool false)], args := [d] }
  | _ => none }
def FnExactTypeItemWrongFalsely : Prop := fnExactTypeItemRow.holds Try.pinned (OpenSpec.ofChange fnExactTypeItemWrong)

/-- 'laws.FnExactTypeList': WHATEVER THE INPUT: true; the input reads as it did. -/
def fnExactTypeListSpec : ChangeSpec := { name := "fnExactTypeList", fn := fun _ => fun
  | [d] => { results := [.lit (.bool true)], args := [d] }
  | _ => none }
def fnExactTypeListRow : OpenClaim := { program := "ytgfdkjpjijajnaa", sum := "e4c437260b5f30b0b9f91cd829758ef8100b309b8f8342e53ac0169563703aef", func := "loop.example/turnedsafely/laws.FnExactTypeList", spec := "fnExactTypeList", inPlace := ["internal/bytealg.IndexByteString", "internal/bytealg.IndexString"], named := ["internal/bytealg.MaxLen"], apart := false }
def FnExactTypeListSaid : Prop := fnExactTypeListRow.holds Try.pinned (OpenSpec.ofChange fnExactTypeListSpec)

/-- ITS FALSE NEIGHBOUR: 'it returns false'. Refute it at one input. -/
def fnExactTypeListWrong : ChangeSpec := { name := "fnExactTypeList", fn := fun _ => fun
  | [d] => { results := [.lit (.bool false)], args := [d] }
  | _ => none }
def FnExactTypeListWrongFalsely : Prop := fnExactTypeListRow.holds Try.pinned (OpenSpec.ofChange fnExactTypeListWrong)

/-- 'laws.FnExactValueOk': WHATEVER THE INPUT: true; the input reads as it did. -/
def fnExactValueOkSpec : ChangeSpec := { name := "fnExactValueOk", fn := fun _ => fun
  | [d] => { results := [.lit (.bool true)], args := [d] }
  | _ => none }
def fnExactValueOkRow : OpenClaim := { program := "ytgfdkjpjijajnaa", sum := "e4c437260b5f30b0b9f91cd829758ef8100b309b8f8342e53ac0169563703aef", func := "loop.example/turnedsafely/laws.FnExactValueOk", spec := "fnExactValueOk", inPlace := ["internal/bytealg.IndexByteString", "internal/bytealg.IndexString"], recurses := true, named := ["internal/bytealg.MaxLen"], loops := true, apart := false }
def FnExactValueOkSaid : Prop := fnExactValueOkRow.holds Try.pinned (OpenSpec.ofChange fnExactValueOkSpec)

/-- ITS FALSE NEIGHBOUR: 'it returns false'. Refute it at one input. -/
def fnExactValueOkWrong : ChangeSpec := { name := "fnExactValueOk", fn := fun _ => fun
  | [d] => { results := [.lit (.bool false)], args := [d] }
  | _ => none }
def FnExactValueOkWrongFalsely : Prop := fnExactValueOkRow.holds Try.pinned (OpenSpec.ofChange fnExactValueOkWrong)

/-- 'laws.FnExactValueSame': WHATEVER THE INPUT: true; the input reads as it did. -/
def fnExactValueSameSpec : ChangeSpec := { name := "fnExactValueSame", fn := fun _ => fun
  | [d1, d2] => { results := [.lit (.bool true)], args := [d1, d2] }
  | _ => none }
def fnExactValueSameRow : OpenClaim := { program := "ytgfdkjpjijajnaa", sum := "e4c437260b5f30b0b9f91cd829758ef8100b309b8f8342e53ac0169563703aef", func := "loop.example/turnedsafely/laws.FnExactValueSame", spec := "fnExactValueSame", inPlace := ["internal/bytealg.IndexByteString", "internal/bytealg.IndexString"], unfollowed := true, recurses := true, named := ["internal/bytealg.MaxLen"], loops := true, apart := false }
def FnExactValueSameSaid : Prop := fnExactValueSameRow.holds Try.pinned (OpenSpec.ofChange fnExactValueSameSpec)

/-- ITS FALSE NEIGHBOUR: 'it returns false'. Refute it at one input. -/
def fnExactValueSameWrong : ChangeSpec := { name := "fnExactValueSame", fn := fun _ => fun
  | [d1, d2] => { results := [.lit (.bool false)], args := [d1, d2] }
  | _ => none }
def FnExactValueSameWrongFalsely : Prop := fnExactValueSameRow.holds Try.pinned (OpenSpec.ofChange fnExactValueSameWrong)

/-- 'laws.FnExactExprOk': WHATEVER THE INPUT: true; the input reads as it did. -/
def fnExactExprOkSpec : ChangeSpec := { name := "fnExactExprOk", fn := fun _ => fun
  | [d] => { results := [.lit (.bool true)], args := [d] }
  | _ => none }
def fnExactExprOkRow : OpenClaim := { program := "ytgfdkjpjijajnaa", sum := "e4c437260b5f30b0b9f91cd829758ef8100b309b8f8342e53ac0169563703aef", func := "loop.example/turnedsafely/laws.FnExactExprOk", spec := "fnExactExprOk", inPlace := ["internal/bytealg.IndexByteString", "internal/bytealg.IndexString"], recurses := true, named := ["internal/bytealg.MaxLen"], loops := true, apart := false }
def FnExactExprOkSaid : Prop := fnExactExprOkRow.holds Try.pinned (OpenSpec.ofChange fnExactExprOkSpec)

/-- ITS FALSE NEIGHBOUR: 'it returns false'. Refute it at one input. -/
def fnExactExprOkWrong : ChangeSpec := { name := "fnExactExprOk", fn := fun _ => fun
  | [d] => { results := [.lit (.bool false)], args := [d] }
  | _ => none }
def FnExactExprOkWrongFalsely : Prop := fnExactExprOkRow.holds Try.pinned (OpenSpec.ofChange fnExactExprOkWrong)

/-- 'laws.FnExactExprSize': WHATEVER THE INPUT: true; the input reads as it did. -/
def fnExactExprSizeSpec : ChangeSpec := { name := "fnExactExprSize", fn := fun _ => fun
  | [d] => { results := [.lit (.bool true)], args := [d] }
  | _ => none }
def fnExactExprSizeRow : OpenClaim := { program := "ytgfdkjpjijajnaa", sum := "e4c437260b5f30b0b9f91cd829758ef8100b309b8f8342e53ac0169563703aef", func := "loop.example/turnedsafely/laws.FnExactExprSize", spec := "fnExactExprSize", inPlace := ["internal/bytealg.IndexByteString", "internal/bytealg.IndexString"], recurses := true, named := ["internal/bytealg.MaxLen"], loops := true, apart := false }
def FnExactExprSizeSaid : Prop := fnExactExprSizeRow.holds Try.pinned (OpenSpec.ofChange fnExactExprSizeSpec)

/-- ITS FALSE NEIGHBOUR: 'it returns false'. Refute it at one input. -/
def fnExactExprSizeWrong : ChangeSpec := { name := "fnExactExprSize", fn := fun _ => fun
  | [d] => { results := [.lit (.bool false)], args := [d] }
  | _ => none }
def FnExactExprSizeWrongFalsely : Prop := fnExactExprSizeRow.holds Try.pinned (OpenSpec.ofChange fnExactExprSizeWrong)

/-- 'laws.FnExactExprSame': WHATEVER THE INPUT: true; the input reads as it did. -/
def fnExactExprSameSpec : ChangeSpec := { name := "fnExactExprSame", fn := fun _ => fun
  | [d1, d2] => { results := [.lit (.bool true)], args := [d1, d2] }
  | _ => none }
def fnExactExprSameRow : OpenClaim := { program := "ytgfdkjpjijajnaa", sum := "e4c437260b5f30b0b9f91cd829758ef8100b309b8f8342e53ac0169563703aef", func := "loop.example/turnedsafely/laws.FnExactExprSame", spec := "fnExactExprSame", inPlace := ["internal/bytealg.IndexByteString", "internal/bytealg.IndexString"], unfollowed := true, recurses := true, named := ["internal/bytealg.MaxLen"], loops := true, apart := false }
def FnExactExprSameSaid : Prop := fnExactExprSameRow.holds Try.pinned (OpenSpec.ofChange fnExactExprSameSpec)

/-- ITS FALSE NEIGHBOUR: 'it returns false'. Refute it at one input. -/
def fnExactExprSameWrong : ChangeSpec := { name := "fnExactExprSame", fn := fun _ => fun
  | [d1, d2] => { results := [.lit (.bool false)], args := [d1, d2] }
  | _ => none }
def FnExactExprSameWrongFalsely : Prop := fnExactExprSameRow.holds Try.pinned (OpenSpec.ofChange fnExactExprSameWrong)

/-- 'laws.FnExactValueRenamed': WHATEVER THE INPUT: true; the input reads as it did. -/
def fnExactValueRenamedSpec : ChangeSpec := { name := "fnExactValueRenamed", fn := fun _ => fun
  | [d1, d2, d3] => { results := [.lit (.bool true)], args := [d1, d2, d3] }
  | _ => none }
def fnExactValueRenamedRow : OpenClaim := { program := "ytgfdkjpjijajnaa", sum := "e4c437260b5f30b0b9f91cd829758ef8100b309b8f8342e53ac0169563703aef", func := "loop.example/turnedsafely/laws.FnExactValueRenamed", spec := "fnExactValueRenamed", inPlace := ["internal/bytealg.IndexByteString", "internal/bytealg.IndexString"], recurses := true, named := ["internal/bytealg.MaxLen"], loops := true, apart := false }
def FnExactValueRenamedSaid : Prop := fnExactValueRenamedRow.holds Try.pinned (OpenSpec.ofChange fnExactValueRenamedSpec)

/-- ITS FALSE NEIGHBOUR: 'it returns false'. Refute it at one input. -/
def fnExactValueRenamedWrong : ChangeSpec := { name := "fnExactValueRenamed", fn := fun _ => fun
  | [d1, d2, d3] => { results := [.lit (.bool false)], args := [d1, d2, d3] }
  | _ => none }
def FnExactValueRenamedWrongFalsely : Prop := fnExactValueRenamedRow.holds Try.pinned (OpenSpec.ofChange fnExactValueRenamedWrong)

/-- 'laws.FnExactExprLike': WHATEVER THE INPUT: true; the input reads as it did. -/
def fnExactExprLikeSpec : ChangeSpec := { name := "fnExactExprLike", fn := fun _ => fun
  | [d1, d2] => { results := [.lit (.bool true)], args := [d1, d2] }
  | _ => none }
def fnExactExprLikeRow : OpenClaim := { program := "ytgfdkjpjijajnaa", sum := "e4c437260b5f30b0b9f91cd829758ef8100b309b8f8342e53ac0169563703aef", func := "loop.example/turnedsafely/laws.FnExactExprLike", spec := "fnExactExprLike", inPlace := ["internal/bytealg.IndexByteString", "internal/bytealg.IndexString"], recurses := true, named := ["internal/bytealg.MaxLen"], loops := true, apart := false }
def FnExactExprLikeSaid : Prop := fnExactExprLikeRow.holds Try.pinned (OpenSpec.ofChange fnExactExprLikeSpec)

/-- ITS FALSE NEIGHBOUR: 'it returns false'. Refute it at one input. -/
def fnExactExprLikeWrong : ChangeSpec := { name := "fnExactExprLike", fn := fun _ => fun
  | [d1, d2] => { results := [.lit (.bool false)], args := [d1, d2] }
  | _ => none }
def FnExactExprLikeWrongFalsely : Prop := fnExactExprLikeRow.holds Try.pinned (OpenSpec.ofChange fnExactExprLikeWrong)

/-- 'laws.FnExactExprCalls': WHATEVER THE INPUT: true; the input reads as it did. -/
def fnExactExprCallsSpec : ChangeSpec := { name := "fnExactExprCalls", fn := fun _ => fun
  | [d] => { results := [.lit (.bool true)], args := [d] }
  | _ => none }
def fnExactExprCallsRow : OpenClaim := { program := "ytgfdkjpjijajnaa", sum := "e4c437260b5f30b0b9f91cd829758ef8100b309b8f8342e53ac0169563703aef", func := "loop.example/turnedsafely/laws.FnExactExprCalls", spec := "fnExactExprCalls", inPlace := ["internal/bytealg.IndexByteString", "internal/bytealg.IndexString"], recurses := true, named := ["internal/bytealg.MaxLen"], loops := true, apart := false }
def FnExactExprCallsSaid : Prop := fnExactExprCallsRow.holds Try.pinned (OpenSpec.ofChange fnExactExprCallsSpec)

/-- ITS FALSE NEIGHBOUR: 'it returns false'. Refute it at one input. -/
def fnExactExprCallsWrong : ChangeSpec := { name := "fnExactExprCalls", fn := fun _ => fun
  | [d] => { results := [.lit (.bool false)], args := [d] }
  | _ => none }
def FnExactExprCallsWrongFalsely : Prop := fnExactExprCallsRow.holds Try.pinned (OpenSpec.ofChange fnExactExprCallsWrong)

/- THE SECOND FORM. 'bulk': how many values and letters a reading holds, each counted each time it is reached (what is shared counts as often as it is met; a slice's spare places count too). A statement '..UptoSaid' is the law's where the arguments, and the package variables that the reading takes, are together of bulk at most 1048576: NARROWER than '..Said'. Prove '..Said' where nothing that the law and all that it calls make is longer than what came in: it says more and counts as full. Else prove '..UptoSaid'. A law counts once. -/
mutual
def uptoBulk {H : Type} : DataW H → Nat
  | .lit (.string bytes) => bytes.length + 1
  | .lit _ => 1
  | .nil => 1
  | .ptr d => uptoBulk d + 1
  | .slice elems spare => uptoBulkAll elems + uptoBulkAll spare + 1
  | .agg parts => uptoBulkAll parts + 1
  | .iface _ d => uptoBulk d + 1
  | .map entries => uptoBulkEntries entries + 1
  | .held _ => 1
def uptoBulkAll {H : Type} : List (DataW H) → Nat
  | [] => 0
  | d :: r => uptoBulk d + uptoBulkAll r
def uptoBulkEntries {H : Type} : List (Lit × DataW H) → Nat
  | [] => 0
  | x :: r => uptoBulkEntry x + uptoBulkEntries r
def uptoBulkEntry {H : Type} : Lit × DataW H → Nat
  | (.string bytes, d) => bytes.length + uptoBulk d + 1
  | (_, d) => uptoBulk d + 1
 end
def uptoSmall : (H : Type) → List (DataW H) → Bool := fun _ ds => decide (uptoBulkAll ds ≤ 1048576)
def OpenSpec.upto (s : _root_.Go.ChangeSpec) : _root_.Go.OpenSpec := { _root_.Go.OpenSpec.ofChange s with cond := some uptoSmall }

/-- 'laws.FnExactConstants', WHERE WHAT IT READS IS OF BULK AT MOST 1048576: true; the input reads as it did. -/
def fnExactConstantsUptoRow : OpenClaim := { program := "ytgfdkjpjijajnaa", sum := "e4c437260b5f30b0b9f91cd829758ef8100b309b8f8342e53ac0169563703aef", func := "loop.example/turnedsafely/laws.FnExactConstants", spec := "fnExactConstants", apart := false, narrowed := true }
def FnExactConstantsUptoSaid : Prop := fnExactConstantsUptoRow.holds Try.pinned (OpenSpec.upto fnExactConstantsSpec)

/-- 'laws.FnExactTypeOk', WHERE WHAT IT READS IS OF BULK AT MOST 1048576: true; the input reads as it did. -/
def fnExactTypeOkUptoRow : OpenClaim := { program := "ytgfdkjpjijajnaa", sum := "e4c437260b5f30b0b9f91cd829758ef8100b309b8f8342e53ac0169563703aef", func := "loop.example/turnedsafely/laws.FnExactTypeOk", spec := "fnExactTypeOk", inPlace := ["internal/bytealg.IndexByteString", "internal/bytealg.IndexString"], named := ["internal/bytealg.MaxLen"], apart := false, narrowed := true }
def FnExactTypeOkUptoSaid : Prop := fnExactTypeOkUptoRow.holds Try.pinned (OpenSpec.upto fnExactTypeOkSpec)

/-- 'laws.FnExactTypeItem', WHERE WHAT IT READS IS OF BULK AT MOST 1048576: true; the input reads as it did. -/
def fnExactTypeItemUptoRow : OpenClaim := { program := "ytgfdkjpjijajnaa", sum := "e4c437260b5f30b0b9f91cd829758ef8100b309b8f8342e53ac0169563703aef", func := "loop.example/turnedsafely/laws.FnExactTypeItem", spec := "fnExactTypeItem", inPlace := ["internal/bytealg.IndexByteString", "internal/bytealg.IndexString"], named := ["internal/bytealg.MaxLen"], apart := false, narrowed := true }
def FnExactTypeItemUptoSaid : Prop := fnExactTypeItemUptoRow.holds Try.pinned (OpenSpec.upto fnExactTypeItemSpec)

/-- 'laws.FnExactTypeList', WHERE WHAT IT READS IS OF BULK AT MOST 1048576: true; the input reads as it did. -/
def fnExactTypeListUptoRow : OpenClaim := { program := "ytgfdkjpjijajnaa", sum := "e4c437260b5f30b0b9f91cd829758ef8100b309b8f8342e53ac0169563703aef", func := "loop.example/turnedsafely/laws.FnExactTypeList", spec := "fnExactTypeList", inPlace := ["internal/bytealg.IndexByteString", "internal/bytealg.IndexString"], named := ["internal/bytealg.MaxLen"], apart := false, narrowed := true }
def FnExactTypeListUptoSaid : Prop := fnExactTypeListUptoRow.holds Try.pinned (OpenSpec.upto fnExactTypeListSpec)

/-- 'laws.FnExactValueOk', WHERE WHAT IT READS IS OF BULK AT MOST 1048576: true; the input reads as it did. -/
def fnExactValueOkUptoRow : OpenClaim := { program := "ytgfdkjpjijajnaa", sum := "e4c437260b5f30b0b9f91cd829758ef8100b309b8f8342e53ac0169563703aef", func := "loop.example/turnedsafely/laws.FnExactValueOk", spec := "fnExactValueOk", inPlace := ["internal/bytealg.IndexByteString", "internal/bytealg.IndexString"], recurses := true, named := ["internal/bytealg.MaxLen"], loops := true, apart := false, narrowed := true }
def FnExactValueOkUptoSaid : Prop := fnExactValueOkUptoRow.holds Try.pinned (OpenSpec.upto fnExactValueOkSpec)

/-- 'laws.FnExactValueSame', WHERE WHAT IT READS IS OF BULK AT MOST 1048576: true; the input reads as it did. -/
def fnExactValueSameUptoRow : OpenClaim := { program := "ytgfdkjpjijajnaa", sum := "e4c437260b5f30b0b9f91cd829758ef8100b309b8f8342e53ac0169563703aef", func := "loop.example/turnedsafely/laws.FnExactValueSame", spec := "fnExactValueSame", inPlace := ["internal/bytealg.IndexByteString", "internal/bytealg.IndexString"], unfollowed := true, recurses := true, named := ["internal/bytealg.MaxLen"], loops := true, apart := false, narrowed := true }
def FnExactValueSameUptoSaid : Prop := fnExactValueSameUptoRow.holds Try.pinned (OpenSpec.upto fnExactValueSameSpec)

/-- 'laws.FnExactExprOk', WHERE WHAT IT READS IS OF BULK AT MOST 1048576: true; the input reads as it did. -/
def fnExactExprOkUptoRow : OpenClaim := { program := "ytgfdkjpjijajnaa", sum := "e4c437260b5f30b0b9f91cd829758ef8100b309b8f8342e53ac0169563703aef", func := "loop.example/turnedsafely/laws.FnExactExprOk", spec := "fnExactExprOk", inPlace := ["internal/bytealg.IndexByteString", "internal/bytealg.IndexString"], recurses := true, named := ["internal/bytealg.MaxLen"], loops := true, apart := false, narrowed := true }
def FnExactExprOkUptoSaid : Prop := fnExactExprOkUptoRow.holds Try.pinned (OpenSpec.upto fnExactExprOkSpec)

/-- 'laws.FnExactExprSize', WHERE WHAT IT READS IS OF BULK AT MOST 1048576: true; the input reads as it did. -/
def fnExactExprSizeUptoRow : OpenClaim := { program := "ytgfdkjpjijajnaa", sum := "e4c437260b5f30b0b9f91cd829758ef8100b309b8f8342e53ac0169563703aef", func := "loop.example/turnedsafely/laws.FnExactExprSize", spec := "fnExactExprSize", inPlace := ["internal/bytealg.IndexByteString", "internal/bytealg.IndexString"], recurses := true, named := ["internal/bytealg.MaxLen"], loops := true, apart := false, narrowed := true }
def FnExactExprSizeUptoSaid : Prop := fnExactExprSizeUptoRow.holds Try.pinned (OpenSpec.upto fnExactExprSizeSpec)

/-- 'laws.FnExactExprSame', WHERE WHAT IT READS IS OF BULK AT MOST 1048576: true; the input reads as it did. -/
def fnExactExprSameUptoRow : OpenClaim := { program := "ytgfdkjpjijajnaa", sum := "e4c437260b5f30b0b9f91cd829758ef8100b309b8f8342e53ac0169563703aef", func := "loop.example/turnedsafely/laws.FnExactExprSame", spec := "fnExactExprSame", inPlace := ["internal/bytealg.IndexByteString", "internal/bytealg.IndexString"], unfollowed := true, recurses := true, named := ["internal/bytealg.MaxLen"], loops := true, apart := false, narrowed := true }
def FnExactExprSameUptoSaid : Prop := fnExactExprSameUptoRow.holds Try.pinned (OpenSpec.upto fnExactExprSameSpec)

/-- 'laws.FnExactValueRenamed', WHERE WHAT IT READS IS OF BULK AT MOST 1048576: true; the input reads as it did. -/
def fnExactValueRenamedUptoRow : OpenClaim := { program := "ytgfdkjpjijajnaa", sum := "e4c437260b5f30b0b9f91cd829758ef8100b309b8f8342e53ac0169563703aef", func := "loop.example/turnedsafely/laws.FnExactValueRenamed", spec := "fnExactValueRenamed", inPlace := ["internal/bytealg.IndexByteString", "internal/bytealg.IndexString"], recurses := true, named := ["internal/bytealg.MaxLen"], loops := true, apart := false, narrowed := true }
def FnExactValueRenamedUptoSaid : Prop := fnExactValueRenamedUptoRow.holds Try.pinned (OpenSpec.upto fnExactValueRenamedSpec)

/-- 'laws.FnExactExprLike', WHERE WHAT IT READS IS OF BULK AT MOST 1048576: true; the input reads as it did. -/
def fnExactExprLikeUptoRow : OpenClaim := { program := "ytgfdkjpjijajnaa", sum := "e4c437260b5f30b0b9f91cd829758ef8100b309b8f8342e53ac0169563703aef", func := "loop.example/turnedsafely/laws.FnExactExprLike", spec := "fnExactExprLike", inPlace := ["internal/bytealg.IndexByteString", "internal/bytealg.IndexString"], recurses := true, named := ["internal/bytealg.MaxLen"], loops := true, apart := false, narrowed := true }
def FnExactExprLikeUptoSaid : Prop := fnExactExprLikeUptoRow.holds Try.pinned (OpenSpec.upto fnExactExprLikeSpec)

/-- 'laws.FnExactExprCalls', WHERE WHAT IT READS IS OF BULK AT MOST 1048576: true; the input reads as it did. -/
def fnExactExprCallsUptoRow : OpenClaim := { program := "ytgfdkjpjijajnaa", sum := "e4c437260b5f30b0b9f91cd829758ef8100b309b8f8342e53ac0169563703aef", func := "loop.example/turnedsafely/laws.FnExactExprCalls", spec := "fnExactExprCalls", inPlace := ["internal/bytealg.IndexByteString", "internal/bytealg.IndexString"], recurses := true, named := ["internal/bytealg.MaxLen"], loops := true, apart := false, narrowed := true }
def FnExactExprCallsUptoSaid : Prop := fnExactExprCallsUptoRow.holds Try.pinned (OpenSpec.upto fnExactExprCallsSpec)

end Rows
end Go.Proofs.Ytgfdkjpjijajnaa
