/-
  No cell of these rows narrows 'for every input' (looked for: loops, veiled, ifaces, maps, wideKeys, modest, calm, conditions, laid).
  DERIVED. THE GIVEN ROWS OF THIS SEAT. 3 by the template 'for every input the law returns true; each argument reads behind the call as it read before'; 0 by the template 'total and deterministic' (their statements: YteieleejhbljfaaGreatTotals.lean).
  GIVEN WITH THE SEED: the statements are not yours to turn. If you find one false, say at which input.
  Laid BY PROGRAM, IN A SANDBOX (cutbox-rows.mjs): the forced cells as the released guide's own fill.sh prints them over the translation 7cb3d2222f042d06… (all of the seat's roots in one cut). By AI agents, Wed Nov 11 2026. No macro, syntax, notation, axiom, sorry.
-/
import Derived.Test.YteieleejhbljfaaGreatChecked
import GoSem.Claim
import GoSem.ClaimJoined
import GoSem.ClaimMapViews
import Derived.JoinedTies
import Derived.KernelRfl
namespace Go.Proofs.YteieleejhbljfaaGreat
/- THE CELL 'sum', in the pinned program and in every row, IS THE sha256 OF THE DUMP (.gsa) THAT YteieleejhbljfaaGreatProg.lean LOADS. Nothing in Lean hashes anything: it is a label: what it is worth is what the hold of that sum in a sandbox is worth. -/
noncomputable def Tryz.pinned : Pinned := { name := "yteieleejhbljfaagreat", sum := "7cb3d2222f042d0610e62404266472e8da128cef13a61b48f92d693f46f524c5", checked := Tryz.checked }
namespace Rows
def none {H : Type} : Left H := { results := [], args := [] }

/-- 'laws.FnExprCalls': WHATEVER THE INPUT: true; the input reads as it did. -/
def fnExprCallsSpec : ChangeSpec := { name := "fnExprCalls", fn := fun _ => fun
  | [d] => { results := [.lit (.bool true)], args := [d] }
  | _ => none }
def fnExprCallsRow : OpenClaim := { program := "yteieleejhbljfaagreat", sum := "7cb3d2222f042d0610e62404266472e8da128cef13a61b48f92d693f46f524c5", func := "loop.example/turnedsafely/laws.FnExprCalls", spec := "fnExprCalls", inPlace := ["internal/bytealg.IndexByteString", "internal/bytealg.IndexString"], recurses := true, named := ["internal/bytealg.MaxLen"], apart := false }
def FnExprCallsSaid : Prop := fnExprCallsRow.holds Tryz.pinned (OpenSpec.ofChange fnExprCallsSpec)

/-- ITS FALSE NEIGHBOUR: 'it returns false'. Refute it at one input. -/
def fnExprCallsWrong : ChangeSpec := { name := "fnExprCalls", fn := fun _ => fun
  | [d] => { results := [.lit (.bool false)], args := [d] }
  | _ => none }
def FnExprCallsWrongFalsely : Prop := fnExprCallsRow.holds Tryz.pinned (OpenSpec.ofChange fnExprCallsWrong)

/-- 'laws.FnSharedPaths': WHATEVER THE INPUT: true; the input reads as it did. -/
def fnSharedPathsSpec : ChangeSpec := { name := "fnSharedPaths", fn := fun _ => fun
  | [d] => { results := [.lit (.bool true)], args := [d] }
  | _ => none }
def fnSharedPathsRow : OpenClaim := { program := "yteieleejhbljfaagreat", sum := "7cb3d2222f042d0610e62404266472e8da128cef13a61b48f92d693f46f524c5", func := "loop.example/turnedsafely/laws.FnSharedPaths", spec := "fnSharedPaths", inPlace := ["internal/bytealg.IndexByteString", "internal/bytealg.IndexString"], unfollowed := true, recurses := true, named := ["internal/bytealg.MaxLen"], apart := false }
def FnSharedPathsSaid : Prop := fnSharedPathsRow.holds Tryz.pinned (OpenSpec.ofChange fnSharedPathsSpec)

/-- ITS FALSE NEIGHBOUR: 'it returns false'. Refute it at one input. -/
def fnSharedPathsWrong : ChangeSpec := { name := "fnSharedPaths", fn := fun _ => fun
  | [d] => { results := [.lit (.bool false)], args := [d] }
  | _ => none }
def FnSharedPathsWrongFalsely : Prop := fnSharedPathsRow.holds Tryz.pinned (OpenSpec.ofChange fnSharedPathsWrong)

/-- 'laws.FnSharedBest': WHATEVER THE INPUT: true; the input reads as it did. -/
def fnSharedBestSpec : ChangeSpec := { name := "fnSharedBest", fn := fun _ => fun
  | [d] => { results := [.lit (.bool true)], args := [d] }
  | _ => none }
def fnSharedBestRow : OpenClaim := { program := "yteieleejhbljfaagreat", sum := "7cb3d2222f042d0610e62404266472e8da128cef13a61b48f92d693f46f524c5", func := "loop.example/turnedsafely/laws.FnSharedBest", spec := "fnSharedBest", inPlace := ["internal/bytealg.IndexByteString", "internal/bytealg.IndexString"], unfollowed := true, recurses := true, named := ["internal/bytealg.MaxLen"], apart := false }
def FnSharedBestSaid : Prop := fnSharedBestRow.holds Tryz.pinned (OpenSpec.ofChange fnSharedBestSpec)

/-- ITS FALSE NEIGHBOUR: 'it returns false'. Refute it at one input. -/
def fnSharedBestWrong : ChangeSpec := { name := "fnSharedBest", fn := fun _ => fun
  | [d] => { results := [.lit (.bool false)], args := [d] }
  | _ => none }
def FnSharedBestWrongFalsely : Prop := fnSharedBestRow.holds Tryz.pinned (OpenSpec.ofChange fnSharedBestWrong)

/- THE SECOND FORM. 'bulk': how many values and letters a reading holds, each counted each time it is reached (what is shared counts as often as it is met; a slice's spare places count too). A statement '..UptoSaid' is the law's where the arguments, and the package variables that the reading takes, are together of bulk at most 1048576: NARROWER than '..Said'. Prove '..Said' where nothing that the law and all that it calls make is longer than what came in: it says more and counts as full. Else prove '..UptoSaid'. A law counts once. -/
mutual
def uptoBulk {H : Type} : DataW H → Nat
  | .lit (.string bytes) => bytes.length + 1
  | .lit _ => 1
  | .nil => 1
  | .ptr d => uptoBulk d + 1
  | .slice elems spare => uptoBulkAll elems + uptoBulkAll spare + 1
  | .agg parts => uptoBulkAll parts + 1
  | .iface _ d => uptoBulk d + 1
  | .map entries => uptoBulkEntries entries + 1
  | .held _ => 1
def uptoBulkAll {H : Type} : List (DataW H) → Nat
  | [] => 0
  | d :: r => uptoBulk d + uptoBulkAll r
def uptoBulkEntries {H : Type} : List (Lit × DataW H) → Nat
  | [] => 0
  | x :: r => uptoBulkEntry x + uptoBulkEntries r
def uptoBulkEntry {H : Type} : Lit × DataW H → Nat
  | (.string bytes, d) => bytes.length + uptoBulk d + 1
  | (_, d) => uptoBulk d + 1
 end
def uptoSmall : (H : Type) → List (DataW H) → Bool := fun _ ds => decide (uptoBulkAll ds ≤ 1048576)
def OpenSpec.upto (s : _root_.Go.ChangeSpec) : _root_.Go.OpenSpec := { _root_.Go.OpenSpec.ofChange s with cond := some uptoSmall }

/-- 'laws.FnExprCalls', WHERE WHAT IT READS IS OF BULK AT MOST 1048576: true; the input reads as it did. -/
def fnExprCallsUptoRow : OpenClaim := { program := "yteieleejhbljfaagreat", sum := "7cb3d2222f042d0610e62404266472e8da128cef13a61b48f92d693f46f524c5", func := "loop.example/turnedsafely/laws.FnExprCalls", spec := "fnExprCalls", inPlace := ["internal/bytealg.IndexByteString", "internal/bytealg.IndexString"], recurses := true, named := ["internal/bytealg.MaxLen"], apart := false, narrowed := true }
def FnExprCallsUptoSaid : Prop := fnExprCallsUptoRow.holds Tryz.pinned (OpenSpec.upto fnExprCallsSpec)

/-- 'laws.FnSharedPaths', WHERE WHAT IT READS IS OF BULK AT MOST 1048576: true; the input reads as it did. -/
def fnSharedPathsUptoRow : OpenClaim := { program := "yteieleejhbljfaagreat", sum := "7cb3d2222f042d0610e62404266472e8da128cef13a61b48f92d693f46f524c5", func := "loop.example/turnedsafely/laws.FnSharedPaths", spec := "fnSharedPaths", inPlace := ["internal/bytealg.IndexByteString", "internal/bytealg.IndexString"], unfollowed := true, recurses := true, named := ["internal/bytealg.MaxLen"], apart := false, narrowed := true }
def FnSharedPathsUptoSaid : Prop := fnSharedPathsUptoRow.holds Tryz.pinned (OpenSpec.upto fnSharedPathsSpec)

/-- 'laws.FnSharedBest', WHERE WHAT IT READS IS OF BULK AT MOST 1048576: true; the input reads as it did. -/
def fnSharedBestUptoRow : OpenClaim := { program := "yteieleejhbljfaagreat", sum := "7cb3d2222f042d0610e62404266472e8da128cef13a61b48f92d693f46f524c5", func := "loop.example/turnedsafely/laws.FnSharedBest", spec := "fnSharedBest", inPlace := ["internal/bytealg.IndexByteString", "internal/bytealg.IndexString"], unfollowed := true, recurses := true, named := ["internal/bytealg.MaxLen"], apart := false, narrowed := true }
def FnSharedBestUptoSaid : Prop := fnSharedBestUptoRow.holds Tryz.pinned (OpenSpec.upto fnSharedBestSpec)

end Rows
end Go.Proofs.YteieleejhbljfaaGreat
