/-
  No cell of these rows narrows 'for every input' (looked for: loops, veiled, ifaces, maps, wideKeys, modest, calm, conditions, laid).
  DERIVED. THE GIVEN ROWS OF THIS SEAT. 6 by the template 'for every input the law returns true; each argument reads behind the call as it read before'; 0 by the template 'total and deterministic' (their statements: YtpdebdoecadikaaTotals.lean).
  GIVEN WITH THE SEED: the statements are not yours to turn. If you find one false, say at which input.
  Laid BY PROGRAM, IN A SANDBOX (cutbox-rows.mjs): the forced cells as the released guide's own fill.sh prints them over the translation df41367eef6c8915… (all of the seat's roots in one cut). By AI agents, Wed Nov 11 2026. No macro, syntax, notation, axiom, sorry.
-/
import Derived.Test.YtpdebdoecadikaaChecked
import GoSem.Claim
import GoSem.ClaimJoined
import GoSem.ClaimMapViews
import Derived.JoinedTies
import Derived.KernelRfl
namespace Go.Proofs.Ytpdebdoecadikaa
/- THE CELL 'sum', in the pinned program and in every row, IS THE sha256 OF THE DUMP (.gsa) THAT YtpdebdoecadikaaProg.lean LOADS. Nothing in Lean hashes anything: it is a label: what it is worth is what the hold of that sum in a sandbox is worth. -/
noncomputable def Try.pinned : Pinned := { name := "ytpdebdoecadikaa", sum := "df41367eef6c891514ebb91299012a31e3609ba727b5a8bcdd129f15c7510100", checked := Try.checked }
namespace Rows
def none {H : Type} : Left H := { results := [], args := [] }

/-- 'laws.FnExactFlush': WHATEVER THE INPUT: true; the input reads as it did. -/
def fnExactFlushSpec : ChangeSpec := { name := "fnExactFlush", fn := fun _ => fun
  | [d] => { results := [.lit (.bool true)], args := [d] }
  | _ => none }
def fnExactFlushRow : OpenClaim := { program := "ytpdebdoecadikaa", sum := "df41367eef6c891514ebb91299012a31e3609ba727b5a8bcdd129f15c7510100", func := "loop.example/g00492/laws.FnExactFlush", spec := "fnExactFlush", apart := false }
def FnExactFlushSaid : Prop := fnExactFlushRow.holds Try.pinned (OpenSpec.ofChange fnExactFlushSpec)

/-- ITS FALSE NEIGHBOUR: 'it returns false'. Refute it at one input. -/
def fnExactFlushWrong : ChangeSpec := { name := "fnExactFlush", fn := fun _ => fun
  | [d] => { results := [.lit (.bool false)], args := [d] }
  | _ => none }
def FnExactFlushWrongFalsely : Prop := fnExactFlushRow.holds Try.pinned (OpenSpec.ofChange fnExactFlushWrong)

/-- 'laws.FnExactCrash': WHATEVER THE INPUT: true; the input reads as it did. -/
def fnExactCrashSpec : ChangeSpec := { name := "fnExactCrash", fn := fun _ => fun
  | [d1, d2, d3] => { results := [.lit (.bool true)], args := [d1, d2, d3] }
  | _ => none }
def fnExactCrashRow : OpenClaim := { program := "ytpdebdoecadikaa", sum := "df41367eef6c891514ebb91299012a31e3609ba727b5a8bcdd129f15c7510100", func := "loop.example/g00492/laws.FnExactCrash", spec := "fnExactCrash", apart := false }
def FnExactCrashSaid : Prop := fnExactCrashRow.holds Try.pinned (OpenSpec.ofChange fnExactCrashSpec)

/-- ITS FALSE NEIGHBOUR: 'it returns false'. Refute it at one input. -/
def fnExactCrashWrong : ChangeSpec := { name := "fnExactCrash", fn := fun _ => fun
  | [d1, d2, d3] => { results := [.lit (.bool false)], args := [d1, d2, d3] }
  | _ => none }
def FnExactCrashWrongFalsely : Prop := fnExactCrashRow.holds Try.pinned (OpenSpec.ofChange fnExactCrashWrong)

/-- 'laws.FnExactVacStart': WHATEVER THE INPUT: true; the input reads as it did. -/
def fnExactVacStartSpec : ChangeSpec := { name := "fnExactVacStart", fn := fun _ => fun
  | [d] => { results := [.lit (.bool true)], args := [d] }
  | _ => none }
def fnExactVacStartRow : OpenClaim := { program := "ytpdebdoecadikaa", sum := "df41367eef6c891514ebb91299012a31e3609ba727b5a8bcdd129f15c7510100", func := "loop.example/g00492/laws.FnExactVacStart", spec := "fnExactVacStart", unfollowed := true, recurses := true, apart := false }
def FnExactVacStartSaid : Prop := fnExactVacStartRow.holds Try.pinned (OpenSpec.ofChange fnExactVacStartSpec)

/-- ITS FALSE NEIGHBOUR: 'it returns false'. Refute it at one input. -/
def fnExactVacStartWrong : ChangeSpec := { name := "fnExactVacStart", fn := fun _ => fun
  | [d] => { results := [.lit (.bool false)], args := [d] }
  | _ => none }
def FnExactVacStartWrongFalsely : Prop := fnExactVacStartRow.holds Try.pinned (OpenSpec.ofChange fnExactVacStartWrong)

/-- 'laws.FnExactMoveOne': WHATEVER THE INPUT: true; the input reads as it did. -/
def fnExactMoveOneSpec : ChangeSpec := { name := "fnExactMoveOne", fn := fun _ => fun
  | [d] => { results := [.lit (.bool true)], args := [d] }
  | _ => none }
def fnExactMoveOneRow : OpenClaim := { program := "ytpdebdoecadikaa", sum := "df41367eef6c891514ebb91299012a31e3609ba727b5a8bcdd129f15c7510100", func := "loop.example/g00492/laws.FnExactMoveOne", spec := "fnExactMoveOne", unfollowed := true, recurses := true, apart := false }
def FnExactMoveOneSaid : Prop := fnExactMoveOneRow.holds Try.pinned (OpenSpec.ofChange fnExactMoveOneSpec)

/-- ITS FALSE NEIGHBOUR: 'it returns false'. Refute it at one input. -/
def fnExactMoveOneWrong : ChangeSpec := { name := "fnExactMoveOne", fn := fun _ => fun
  | [d] => { results := [.lit (.bool false)], args := [d] }
  | _ => none }
def FnExactMoveOneWrongFalsely : Prop := fnExactMoveOneRow.holds Try.pinned (OpenSpec.ofChange fnExactMoveOneWrong)

/-- 'laws.FnExactMoveAll': WHATEVER THE INPUT: true; the input reads as it did. -/
def fnExactMoveAllSpec : ChangeSpec := { name := "fnExactMoveAll", fn := fun _ => fun
  | [d] => { results := [.lit (.bool true)], args := [d] }
  | _ => none }
def fnExactMoveAllRow : OpenClaim := { program := "ytpdebdoecadikaa", sum := "df41367eef6c891514ebb91299012a31e3609ba727b5a8bcdd129f15c7510100", func := "loop.example/g00492/laws.FnExactMoveAll", spec := "fnExactMoveAll", unfollowed := true, recurses := true, apart := false }
def FnExactMoveAllSaid : Prop := fnExactMoveAllRow.holds Try.pinned (OpenSpec.ofChange fnExactMoveAllSpec)

/-- ITS FALSE NEIGHBOUR: 'it returns false'. Refute it at one input. -/
def fnExactMoveAllWrong : ChangeSpec := { name := "fnExactMoveAll", fn := fun _ => fun
  | [d] => { results := [.lit (.bool false)], args := [d] }
  | _ => none }
def FnExactMoveAllWrongFalsely : Prop := fnExactMoveAllRow.holds Try.pinned (OpenSpec.ofChange fnExactMoveAllWrong)

/-- 'laws.FnLosses': WHATEVER THE INPUT: true; the input reads as it did. -/
def fnLossesSpec : ChangeSpec := { name := "fnLosses", fn := fun _ => fun
  | [d] => { results := [.lit (.bool true)], args := [d] }
  | _ => none }
def fnLossesRow : OpenClaim := { program := "ytpdebdoecadikaa", sum := "df41367eef6c891514ebb91299012a31e3609ba727b5a8bcdd129f15c7510100", func := "loop.example/g00492/laws.FnLosses", spec := "fnLosses", apart := false }
def FnLossesSaid : Prop := fnLossesRow.holds Try.pinned (OpenSpec.ofChange fnLossesSpec)

/-- ITS FALSE NEIGHBOUR: 'it returns false'. Refute it at one input. -/
def fnLossesWrong : ChangeSpec := { name := "fnLosses", fn := fun _ => fun
  | [d] => { results := [.lit (.bool false)], args := [d] }
  | _ => none }
def FnLossesWrongFalsely : Prop := fnLossesRow.holds Try.pinned (OpenSpec.ofChange fnLossesWrong)

/- THE SECOND FORM. 'bulk': how many values and letters a reading holds, each counted each time it is reached (what is shared counts as often as it is met; a slice's spare places count too). A statement '..UptoSaid' is the law's where the arguments, and the package variables that the reading takes, are together of bulk at most 1048576: NARROWER than '..Said'. Prove '..Said' where nothing that the law and all that it calls make is longer than what came in: it says more and counts as full. Else prove '..UptoSaid'. A law counts once. -/
mutual
def uptoBulk {H : Type} : DataW H → Nat
  | .lit (.string bytes) => bytes.length + 1
  | .lit _ => 1
  | .nil => 1
  | .ptr d => uptoBulk d + 1
  | .slice elems spare => uptoBulkAll elems + uptoBulkAll spare + 1
  | .agg parts => uptoBulkAll parts + 1
  | .iface _ d => uptoBulk d + 1
  | .map entries => uptoBulkEntries entries + 1
  | .held _ => 1
def uptoBulkAll {H : Type} : List (DataW H) → Nat
  | [] => 0
  | d :: r => uptoBulk d + uptoBulkAll r
def uptoBulkEntries {H : Type} : List (Lit × DataW H) → Nat
  | [] => 0
  | x :: r => uptoBulkEntry x + uptoBulkEntries r
def uptoBulkEntry {H : Type} : Lit × DataW H → Nat
  | (.string bytes, d) => bytes.length + uptoBulk d + 1
  | (_, d) => uptoBulk d + 1
 end
def uptoSmall : (H : Type) → List (DataW H) → Bool := fun _ ds => decide (uptoBulkAll ds ≤ 1048576)
def OpenSpec.upto (s : _root_.Go.ChangeSpec) : _root_.Go.OpenSpec := { _root_.Go.OpenSpec.ofChange s with cond := some uptoSmall }

/-- 'laws.FnExactFlush', WHERE WHAT IT READS IS OF BULK AT MOST 1048576: true; the input reads as it did. -/
def fnExactFlushUptoRow : OpenClaim := { program := "ytpdebdoecadikaa", sum := "df41367eef6c891514ebb91299012a31e3609ba727b5a8bcdd129f15c7510100", func := "loop.example/g00492/laws.FnExactFlush", spec := "fnExactFlush", apart := false, narrowed := true }
def FnExactFlushUptoSaid : Prop := fnExactFlushUptoRow.holds Try.pinned (OpenSpec.upto fnExactFlushSpec)

/-- 'laws.FnExactCrash', WHERE WHAT IT READS IS OF BULK AT MOST 1048576: true; the input reads as it did. -/
def fnExactCrashUptoRow : OpenClaim := { program := "ytpdebdoecadikaa", sum := "df41367eef6c891514ebb91299012a31e3609ba727b5a8bcdd129f15c7510100", func := "loop.example/g00492/laws.FnExactCrash", spec := "fnExactCrash", apart := false, narrowed := true }
def FnExactCrashUptoSaid : Prop := fnExactCrashUptoRow.holds Try.pinned (OpenSpec.upto fnExactCrashSpec)

/-- 'laws.FnExactVacStart', WHERE WHAT IT READS IS OF BULK AT MOST 1048576: true; the input reads as it did. -/
def fnExactVacStartUptoRow : OpenClaim := { program := "ytpdebdoecadikaa", sum := "df41367eef6c891514ebb91299012a31e3609ba727b5a8bcdd129f15c7510100", func := "loop.example/g00492/laws.FnExactVacStart", spec := "fnExactVacStart", unfollowed := true, recurses := true, apart := false, narrowed := true }
def FnExactVacStartUptoSaid : Prop := fnExactVacStartUptoRow.holds Try.pinned (OpenSpec.upto fnExactVacStartSpec)

/-- 'laws.FnExactMoveOne', WHERE WHAT IT READS IS OF BULK AT MOST 1048576: true; the input reads as it did. -/
def fnExactMoveOneUptoRow : OpenClaim := { program := "ytpdebdoecadikaa", sum := "df41367eef6c891514ebb91299012a31e3609ba727b5a8bcdd129f15c7510100", func := "loop.example/g00492/laws.FnExactMoveOne", spec := "fnExactMoveOne", unfollowed := true, recurses := true, apart := false, narrowed := true }
def FnExactMoveOneUptoSaid : Prop := fnExactMoveOneUptoRow.holds Try.pinned (OpenSpec.upto fnExactMoveOneSpec)

/-- 'laws.FnExactMoveAll', WHERE WHAT IT READS IS OF BULK AT MOST 1048576: true; the input reads as it did. -/
def fnExactMoveAllUptoRow : OpenClaim := { program := "ytpdebdoecadikaa", sum := "df41367eef6c891514ebb91299012a31e3609ba727b5a8bcdd129f15c7510100", func := "loop.example/g00492/laws.FnExactMoveAll", spec := "fnExactMoveAll", unfollowed := true, recurses := true, apart := false, narrowed := true }
def FnExactMoveAllUptoSaid : Prop := fnExactMoveAllUptoRow.holds Try.pinned (OpenSpec.upto fnExactMoveAllSpec)

/-- 'laws.FnLosses', WHERE WHAT IT READS IS OF BULK AT MOST 1048576: true; the input reads as it did. -/
def fnLossesUptoRow : OpenClaim := { program := "ytpdebdoecadikaa", sum := "df41367eef6c891514ebb91299012a31e3609ba727b5a8bcdd129f15c7510100", func := "loop.example/g00492/laws.FnLosses", spec := "fnLosses", apart := false, narrowed := true }
def FnLossesUptoSaid : Prop := fnLossesUptoRow.holds Try.pinned (OpenSpec.upto fnLossesSpec)

end Rows
end Go.Proofs.Ytpdebdoecadikaa
