/-
  No cell of these rows narrows 'for every input' (looked for: loops, veiled, ifaces, maps, wideKeys, modest, calm, conditions, laid).
  DERIVED. THE GIVEN ROWS OF THIS SEAT. 12 by the template 'for every input the law returns true; each argument reads behind the call as it read before'; 0 by the template 'total and deterministic' (their statements: YtgfhnepkpbmbcaaTotals.lean).
  GIVEN WITH THE SEED: the statements are not yours to turn. If you find one false, say at which input.
  Laid BY PROGRAM, IN A SANDBOX (cutbox-rows.mjs): the forced cells as the released guide's own fill.sh prints them over the translation 7338647d969a9861… (all of the seat's roots in one cut). By AI agents, Wed Nov 11 2026. No macro, syntax, notation, axiom, sorry.
-/
import Derived.Test.YtgfhnepkpbmbcaaChecked
import GoSem.Claim
import GoSem.ClaimJoined
import GoSem.ClaimMapViews
import Derived.JoinedTies
import Derived.KernelRfl
namespace Go.Proofs.Ytgfhnepkpbmbcaa
/- THE CELL 'sum', in the pinned program and in every row, IS THE sha256 OF THE DUMP (.gsa) THAT YtgfhnepkpbmbcaaProg.lean LOADS. Nothing in Lean hashes anything: it is a label: what it is worth is what the hold of that sum in a sandbox is worth. -/
noncomputable def Try.pinned : Pinned := { name := "ytgfhnepkpbmbcaa", sum := "7338647d969a98612feea611f657ed9192f8ac676a7b696f02f5bc74397e6017", checked := Try.checked }
namespace Rows
def none {H : Type} : Left H := { results := [], args := [] }

/-- 'laws.FnExactChangedBy': WHATEVER THE INPUT: true; the input reads as it did. -/
def fnExactChangedBySpec : ChangeSpec := { name := "fnExactChangedBy", fn := fun _ => fun
  | [d] => { results := [.lit (.bool true)], args := [d] }
  | _ => none }
def fnExactChangedByRow : OpenClaim := { program := "ytgfhnepkpbmbcaa", sum := "7338647d969a98612feea611f657ed9192f8ac676a7b696f02f5bc74397e6017", func := "loop.example/g00492/laws.FnExactChangedBy", spec := "fnExactChangedBy", apart := false }
def FnExactChangedBySaid : Prop := fnExactChangedByRow.holds Try.pinned (OpenSpec.ofChange fnExactChangedBySpec)

/-- ITS FALSE NEIGHBOUR: 'it returns false'. Refute it at one input. -/
def fnExactChangedByWrong : ChangeSpec := { name := "fnExactChangedBy", fn := fun _ => fun
  | [d] => { results := [.lit (.bool false)], args := [d] }
  | _ => none }
def FnExactChangedByWrongFalsely : Prop := fnExactChangedByRow.holds Try.pinned (OpenSpec.ofChange fnExactChangedByWrong)

/-- 'laws.FnExactWrite': WHATEVER THE INPUT: true; the input reads as it did. -/
def fnExactWriteSpec : ChangeSpec := { name := "fnExactWrite", fn := fun _ => fun
  | [d1, d2, d3] => { results := [.lit (.bool true)], args := [d1, d2, d3] }
  | _ => none }
def fnExactWriteRow : OpenClaim := { program := "ytgfhnepkpbmbcaa", sum := "7338647d969a98612feea611f657ed9192f8ac676a7b696f02f5bc74397e6017", func := "loop.example/g00492/laws.FnExactWrite", spec := "fnExactWrite", apart := false }
def FnExactWriteSaid : Prop := fnExactWriteRow.holds Try.pinned (OpenSpec.ofChange fnExactWriteSpec)

/-- ITS FALSE NEIGHBOUR: 'it returns false'. Refute it at one input. -/
def fnExactWriteWrong : ChangeSpec := { name := "fnExactWrite", fn := fun _ => fun
  | [d1, d2, d3] => { results := [.lit (.bool false)], args := [d1, d2, d3] }
  | _ => none }
def FnExactWriteWrongFalsely : Prop := fnExactWriteRow.holds Try.pinned (OpenSpec.ofChange fnExactWriteWrong)

/-- 'laws.FnExactFlush': WHATEVER THE INPUT: true; the input reads as it did. -/
def fnExactFlushSpec : ChangeSpec := { name := "fnExactFlush", fn := fun _ => fun
  | [d] => { results := [.lit (.bool true)], args := [d] }
  | _ => none }
def fnExactFlushRow : OpenClaim := { program := "ytgfhnepkpbmbcaa", sum := "7338647d969a98612feea611f657ed9192f8ac676a7b696f02f5bc74397e6017", func := "loop.example/g00492/laws.FnExactFlush", spec := "fnExactFlush", apart := false }
def FnExactFlushSaid : Prop := fnExactFlushRow.holds Try.pinned (OpenSpec.ofChange fnExactFlushSpec)

/-- ITS FALSE NEIGHBOUR: 'it returns false'. Refute it at one input. -/
def fnExactFlushWrong : ChangeSpec := { name := "fnExactFlush", fn := fun _ => fun
  | [d] => { results := [.lit (.bool false)], args := [d] }
  | _ => none }
def FnExactFlushWrongFalsely : Prop := fnExactFlushRow.holds Try.pinned (OpenSpec.ofChange fnExactFlushWrong)

/-- 'laws.FnExactEndCell': WHATEVER THE INPUT: true; the input reads as it did. -/
def fnExactEndCellSpec : ChangeSpec := { name := "fnExactEndCell", fn := fun _ => fun
  | [d1, d2] => { results := [.lit (.bool true)], args := [d1, d2] }
  | _ => none }
def fnExactEndCellRow : OpenClaim := { program := "ytgfhnepkpbmbcaa", sum := "7338647d969a98612feea611f657ed9192f8ac676a7b696f02f5bc74397e6017", func := "loop.example/g00492/laws.FnExactEndCell", spec := "fnExactEndCell", unfollowed := true, recurses := true, apart := false }
def FnExactEndCellSaid : Prop := fnExactEndCellRow.holds Try.pinned (OpenSpec.ofChange fnExactEndCellSpec)

/-- ITS FALSE NEIGHBOUR: 'it returns false'. Refute it at one input. -/
def fnExactEndCellWrong : ChangeSpec := { name := "fnExactEndCell", fn := fun _ => fun
  | [d1, d2] => { results := [.lit (.bool false)], args := [d1, d2] }
  | _ => none }
def FnExactEndCellWrongFalsely : Prop := fnExactEndCellRow.holds Try.pinned (OpenSpec.ofChange fnExactEndCellWrong)

/-- 'laws.FnExactBestHead': WHATEVER THE INPUT: true; the input reads as it did. -/
def fnExactBestHeadSpec : ChangeSpec := { name := "fnExactBestHead", fn := fun _ => fun
  | [d] => { results := [.lit (.bool true)], args := [d] }
  | _ => none }
def fnExactBestHeadRow : OpenClaim := { program := "ytgfhnepkpbmbcaa", sum := "7338647d969a98612feea611f657ed9192f8ac676a7b696f02f5bc74397e6017", func := "loop.example/g00492/laws.FnExactBestHead", spec := "fnExactBestHead", apart := false }
def FnExactBestHeadSaid : Prop := fnExactBestHeadRow.holds Try.pinned (OpenSpec.ofChange fnExactBestHeadSpec)

/-- ITS FALSE NEIGHBOUR: 'it returns false'. Refute it at one input. -/
def fnExactBestHeadWrong : ChangeSpec := { name := "fnExactBestHead", fn := fun _ => fun
  | [d] => { results := [.lit (.bool false)], args := [d] }
  | _ => none }
def FnExactBestHeadWrongFalsely : Prop := fnExactBestHeadRow.holds Try.pinned (OpenSpec.ofChange fnExactBestHeadWrong)

/-- 'laws.FnExactCrash': WHATEVER THE INPUT: true; the input reads as it did. -/
def fnExactCrashSpec : ChangeSpec := { name := "fnExactCrash", fn := fun _ => fun
  | [d1, d2, d3] => { results := [.lit (.bool true)], args := [d1, d2, d3] }
  | _ => none }
def fnExactCrashRow : OpenClaim := { program := "ytgfhnepkpbmbcaa", sum := "7338647d969a98612feea611f657ed9192f8ac676a7b696f02f5bc74397e6017", func := "loop.example/g00492/laws.FnExactCrash", spec := "fnExactCrash", apart := false }
def FnExactCrashSaid : Prop := fnExactCrashRow.holds Try.pinned (OpenSpec.ofChange fnExactCrashSpec)

/-- ITS FALSE NEIGHBOUR: 'it returns false'. Refute it at one input. -/
def fnExactCrashWrong : ChangeSpec := { name := "fnExactCrash", fn := fun _ => fun
  | [d1, d2, d3] => { results := [.lit (.bool false)], args := [d1, d2, d3] }
  | _ => none }
def FnExactCrashWrongFalsely : Prop := fnExactCrashRow.holds Try.pinned (OpenSpec.ofChange fnExactCrashWrong)

/-- 'laws.FnExactPutHead': WHATEVER THE INPUT: true; the input reads as it did. -/
def fnExactPutHeadSpec : ChangeSpec := { name := "fnExactPutHead", fn := fun _ => fun
  | [d1, d2] => { results := [.lit (.bool true)], args := [d1, d2] }
  | _ => none }
def fnExactPutHeadRow : OpenClaim := { program := "ytgfhnepkpbmbcaa", sum := "7338647d969a98612feea611f657ed9192f8ac676a7b696f02f5bc74397e6017", func := "loop.example/g00492/laws.FnExactPutHead", spec := "fnExactPutHead", apart := false }
def FnExactPutHeadSaid : Prop := fnExactPutHeadRow.holds Try.pinned (OpenSpec.ofChange fnExactPutHeadSpec)

/-- ITS FALSE NEIGHBOUR: 'it returns false'. Refute it at one input. -/
def fnExactPutHeadWrong : ChangeSpec := { name := "fnExactPutHead", fn := fun _ => fun
  | [d1, d2] => { results := [.lit (.bool false)], args := [d1, d2] }
  | _ => none }
def FnExactPutHeadWrongFalsely : Prop := fnExactPutHeadRow.holds Try.pinned (OpenSpec.ofChange fnExactPutHeadWrong)

/-- 'laws.FnExactGetPut': WHATEVER THE INPUT: true; the input reads as it did. -/
def fnExactGetPutSpec : ChangeSpec := { name := "fnExactGetPut", fn := fun _ => fun
  | [d1, d2] => { results := [.lit (.bool true)], args := [d1, d2] }
  | _ => none }
def fnExactGetPutRow : OpenClaim := { program := "ytgfhnepkpbmbcaa", sum := "7338647d969a98612feea611f657ed9192f8ac676a7b696f02f5bc74397e6017", func := "loop.example/g00492/laws.FnExactGetPut", spec := "fnExactGetPut", unfollowed := true, recurses := true, apart := false }
def FnExactGetPutSaid : Prop := fnExactGetPutRow.holds Try.pinned (OpenSpec.ofChange fnExactGetPutSpec)

/-- ITS FALSE NEIGHBOUR: 'it returns false'. Refute it at one input. -/
def fnExactGetPutWrong : ChangeSpec := { name := "fnExactGetPut", fn := fun _ => fun
  | [d1, d2] => { results := [.lit (.bool false)], args := [d1, d2] }
  | _ => none }
def FnExactGetPutWrongFalsely : Prop := fnExactGetPutRow.holds Try.pinned (OpenSpec.ofChange fnExactGetPutWrong)

/-- 'laws.FnExactVacDrop': WHATEVER THE INPUT: true; the input reads as it did. -/
def fnExactVacDropSpec : ChangeSpec := { name := "fnExactVacDrop", fn := fun _ => fun
  | [d1, d2] => { results := [.lit (.bool true)], args := [d1, d2] }
  | _ => none }
def fnExactVacDropRow : OpenClaim := { program := "ytgfhnepkpbmbcaa", sum := "7338647d969a98612feea611f657ed9192f8ac676a7b696f02f5bc74397e6017", func := "loop.example/g00492/laws.FnExactVacDrop", spec := "fnExactVacDrop", apart := false }
def FnExactVacDropSaid : Prop := fnExactVacDropRow.holds Try.pinned (OpenSpec.ofChange fnExactVacDropSpec)

/-- ITS FALSE NEIGHBOUR: 'it returns false'. Refute it at one input. -/
def fnExactVacDropWrong : ChangeSpec := { name := "fnExactVacDrop", fn := fun _ => fun
  | [d1, d2] => { results := [.lit (.bool false)], args := [d1, d2] }
  | _ => none }
def FnExactVacDropWrongFalsely : Prop := fnExactVacDropRow.holds Try.pinned (OpenSpec.ofChange fnExactVacDropWrong)

/-- 'laws.FnExactTxCells': WHATEVER THE INPUT: true; the input reads as it did. -/
def fnExactTxCellsSpec : ChangeSpec := { name := "fnExactTxCells", fn := fun _ => fun
  | [d1, d2] => { results := [.lit (.bool true)], args := [d1, d2] }
  | _ => none }
def fnExactTxCellsRow : OpenClaim := { program := "ytgfhnepkpbmbcaa", sum := "7338647d969a98612feea611f657ed9192f8ac676a7b696f02f5bc74397e6017", func := "loop.example/g00492/laws.FnExactTxCells", spec := "fnExactTxCells", unfollowed := true, recurses := true, apart := false }
def FnExactTxCellsSaid : Prop := fnExactTxCellsRow.holds Try.pinned (OpenSpec.ofChange fnExactTxCellsSpec)

/-- ITS FALSE NEIGHBOUR: 'it returns false'. Refute it at one input. -/
def fnExactTxCellsWrong : ChangeSpec := { name := "fnExactTxCells", fn := fun _ => fun
  | [d1, d2] => { results := [.lit (.bool false)], args := [d1, d2] }
  | _ => none }
def FnExactTxCellsWrongFalsely : Prop := fnExactTxCellsRow.holds Try.pinned (OpenSpec.ofChange fnExactTxCellsWrong)

/-- 'laws.FnExactAppend': WHATEVER THE INPUT: true; the input reads as it did. -/
def fnExactAppendSpec : ChangeSpec := { name := "fnExactAppend", fn := fun _ => fun
  | [d1, d2, d3, d4] => { results := [.lit (.bool true)], args := [d1, d2, d3, d4] }
  | _ => none }
def fnExactAppendRow : OpenClaim := { program := "ytgfhnepkpbmbcaa", sum := "7338647d969a98612feea611f657ed9192f8ac676a7b696f02f5bc74397e6017", func := "loop.example/g00492/laws.FnExactAppend", spec := "fnExactAppend", unfollowed := true, recurses := true, apart := false }
def FnExactAppendSaid : Prop := fnExactAppendRow.holds Try.pinned (OpenSpec.ofChange fnExactAppendSpec)

/-- ITS FALSE NEIGHBOUR: 'it returns false'. Refute it at one input. -/
def fnExactAppendWrong : ChangeSpec := { name := "fnExactAppend", fn := fun _ => fun
  | [d1, d2, d3, d4] => { results := [.lit (.bool false)], args := [d1, d2, d3, d4] }
  | _ => none }
def FnExactAppendWrongFalsely : Prop := fnExactAppendRow.holds Try.pinned (OpenSpec.ofChange fnExactAppendWrong)

/-- 'laws.FnExactReadLog': WHATEVER THE INPUT: true; the input reads as it did. -/
def fnExactReadLogSpec : ChangeSpec := { name := "fnExactReadLog", fn := fun _ => fun
  | [d1, d2, d3] => { results := [.lit (.bool true)], args := [d1, d2, d3] }
  | _ => none }
def fnExactReadLogRow : OpenClaim := { program := "ytgfhnepkpbmbcaa", sum := "7338647d969a98612feea611f657ed9192f8ac676a7b696f02f5bc74397e6017", func := "loop.example/g00492/laws.FnExactReadLog", spec := "fnExactReadLog", unfollowed := true, recurses := true, apart := false }
def FnExactReadLogSaid : Prop := fnExactReadLogRow.holds Try.pinned (OpenSpec.ofChange fnExactReadLogSpec)

/-- ITS FALSE NEIGHBOUR: 'it returns false'. Refute it at one input. -/
def fnExactReadLogWrong : ChangeSpec := { name := "fnExactReadLog", fn := fun _ => fun
  | [d1, d2, d3] => { results := [.lit (.bool false)], args := [d1, d2, d3] }
  | _ => none }
def FnExactReadLogWrongFalsely : Prop := fnExactReadLogRow.holds Try.pinned (OpenSpec.ofChange fnExactReadLogWrong)

/- THE SECOND FORM. 'bulk': how many values and letters a reading holds, each counted each time it is reached (what is shared counts as often as it is met; a slice's spare places count too). A statement '..UptoSaid' is the law's where the arguments, and the package variables that the reading takes, are together of bulk at most 1048576: NARROWER than '..Said'. Prove '..Said' where nothing that the law and all that it calls make is longer than what came in: it says more and counts as full. Else prove '..UptoSaid'. A law counts once. -/
mutual
def uptoBulk {H : Type} : DataW H → Nat
  | .lit (.string bytes) => bytes.length + 1
  | .lit _ => 1
  | .nil => 1
  | .ptr d => uptoBulk d + 1
  | .slice elems spare => uptoBulkAll elems + uptoBulkAll spare + 1
  | .agg parts => uptoBulkAll parts + 1
  | .iface _ d => uptoBulk d + 1
  | .map entries => uptoBulkEntries entries + 1
  | .held _ => 1
def uptoBulkAll {H : Type} : List (DataW H) → Nat
  | [] => 0
  | d :: r => uptoBulk d + uptoBulkAll r
def uptoBulkEntries {H : Type} : List (Lit × DataW H) → Nat
  | [] => 0
  | x :: r => uptoBulkEntry x + uptoBulkEntries r
def uptoBulkEntry {H : Type} : Lit × DataW H → Nat
  | (.string bytes, d) => bytes.length + uptoBulk d + 1
  | (_, d) => uptoBulk d + 1
 end
def uptoSmall : (H : Type) → List (DataW H) → Bool := fun _ ds => decide (uptoBulkAll ds ≤ 1048576)
def OpenSpec.upto (s : _root_.Go.ChangeSpec) : _root_.Go.OpenSpec := { _root_.Go.OpenSpec.ofChange s with cond := some uptoSmall }

/-- 'laws.FnExactChangedBy', WHERE WHAT IT READS IS OF BULK AT MOST 1048576: true; the input reads as it did. -/
def fnExactChangedByUptoRow : OpenClaim := { program := "ytgfhnepkpbmbcaa", sum := "7338647d969a98612feea611f657ed9192f8ac676a7b696f02f5bc74397e6017", func := "loop.example/g00492/laws.FnExactChangedBy", spec := "fnExactChangedBy", apart := false, narrowed := true }
def FnExactChangedByUptoSaid : Prop := fnExactChangedByUptoRow.holds Try.pinned (OpenSpec.upto fnExactChangedBySpec)

/-- 'laws.FnExactWrite', WHERE WHAT IT READS IS OF BULK AT MOST 1048576: true; the input reads as it did. -/
def fnExactWriteUptoRow : OpenClaim := { program := "ytgfhnepkpbmbcaa", sum := "7338647d969a98612feea611f657ed9192f8ac676a7b696f02f5bc74397e6017", func := "loop.example/g00492/laws.FnExactWrite", spec := "fnExactWrite", apart := false, narrowed := true }
def FnExactWriteUptoSaid : Prop := fnExactWriteUptoRow.holds Try.pinned (OpenSpec.upto fnExactWriteSpec)

/-- 'laws.FnExactFlush', WHERE WHAT IT READS IS OF BULK AT MOST 1048576: true; the input reads as it did. -/
def fnExactFlushUptoRow : OpenClaim := { program := "ytgfhnepkpbmbcaa", sum := "7338647d969a98612feea611f657ed9192f8ac676a7b696f02f5bc74397e6017", func := "loop.example/g00492/laws.FnExactFlush", spec := "fnExactFlush", apart := false, narrowed := true }
def FnExactFlushUptoSaid : Prop := fnExactFlushUptoRow.holds Try.pinned (OpenSpec.upto fnExactFlushSpec)

/-- 'laws.FnExactEndCell', WHERE WHAT IT READS IS OF BULK AT MOST 1048576: true; the input reads as it did. -/
def fnExactEndCellUptoRow : OpenClaim := { program := "ytgfhnepkpbmbcaa", sum := "7338647d969a98612feea611f657ed9192f8ac676a7b696f02f5bc74397e6017", func := "loop.example/g00492/laws.FnExactEndCell", spec := "fnExactEndCell", unfollowed := true, recurses := true, apart := false, narrowed := true }
def FnExactEndCellUptoSaid : Prop := fnExactEndCellUptoRow.holds Try.pinned (OpenSpec.upto fnExactEndCellSpec)

/-- 'laws.FnExactBestHead', WHERE WHAT IT READS IS OF BULK AT MOST 1048576: true; the input reads as it did. -/
def fnExactBestHeadUptoRow : OpenClaim := { program := "ytgfhnepkpbmbcaa", sum := "7338647d969a98612feea611f657ed9192f8ac676a7b696f02f5bc74397e6017", func := "loop.example/g00492/laws.FnExactBestHead", spec := "fnExactBestHead", apart := false, narrowed := true }
def FnExactBestHeadUptoSaid : Prop := fnExactBestHeadUptoRow.holds Try.pinned (OpenSpec.upto fnExactBestHeadSpec)

/-- 'laws.FnExactCrash', WHERE WHAT IT READS IS OF BULK AT MOST 1048576: true; the input reads as it did. -/
def fnExactCrashUptoRow : OpenClaim := { program := "ytgfhnepkpbmbcaa", sum := "7338647d969a98612feea611f657ed9192f8ac676a7b696f02f5bc74397e6017", func := "loop.example/g00492/laws.FnExactCrash", spec := "fnExactCrash", apart := false, narrowed := true }
def FnExactCrashUptoSaid : Prop := fnExactCrashUptoRow.holds Try.pinned (OpenSpec.upto fnExactCrashSpec)

/-- 'laws.FnExactPutHead', WHERE WHAT IT READS IS OF BULK AT MOST 1048576: true; the input reads as it did. -/
def fnExactPutHeadUptoRow : OpenClaim := { program := "ytgfhnepkpbmbcaa", sum := "7338647d969a98612feea611f657ed9192f8ac676a7b696f02f5bc74397e6017", func := "loop.example/g00492/laws.FnExactPutHead", spec := "fnExactPutHead", apart := false, narrowed := true }
def FnExactPutHeadUptoSaid : Prop := fnExactPutHeadUptoRow.holds Try.pinned (OpenSpec.upto fnExactPutHeadSpec)

/-- 'laws.FnExactGetPut', WHERE WHAT IT READS IS OF BULK AT MOST 1048576: true; the input reads as it did. -/
def fnExactGetPutUptoRow : OpenClaim := { program := "ytgfhnepkpbmbcaa", sum := "7338647d969a98612feea611f657ed9192f8ac676a7b696f02f5bc74397e6017", func := "loop.example/g00492/laws.FnExactGetPut", spec := "fnExactGetPut", unfollowed := true, recurses := true, apart := false, narrowed := true }
def FnExactGetPutUptoSaid : Prop := fnExactGetPutUptoRow.holds Try.pinned (OpenSpec.upto fnExactGetPutSpec)

/-- 'laws.FnExactVacDrop', WHERE WHAT IT READS IS OF BULK AT MOST 1048576: true; the input reads as it did. -/
def fnExactVacDropUptoRow : OpenClaim := { program := "ytgfhnepkpbmbcaa", sum := "7338647d969a98612feea611f657ed9192f8ac676a7b696f02f5bc74397e6017", func := "loop.example/g00492/laws.FnExactVacDrop", spec := "fnExactVacDrop", apart := false, narrowed := true }
def FnExactVacDropUptoSaid : Prop := fnExactVacDropUptoRow.holds Try.pinned (OpenSpec.upto fnExactVacDropSpec)

/-- 'laws.FnExactTxCells', WHERE WHAT IT READS IS OF BULK AT MOST 1048576: true; the input reads as it did. -/
def fnExactTxCellsUptoRow : OpenClaim := { program := "ytgfhnepkpbmbcaa", sum := "7338647d969a98612feea611f657ed9192f8ac676a7b696f02f5bc74397e6017", func := "loop.example/g00492/laws.FnExactTxCells", spec := "fnExactTxCells", unfollowed := true, recurses := true, apart := false, narrowed := true }
def FnExactTxCellsUptoSaid : Prop := fnExactTxCellsUptoRow.holds Try.pinned (OpenSpec.upto fnExactTxCellsSpec)

/-- 'laws.FnExactAppend', WHERE WHAT IT READS IS OF BULK AT MOST 1048576: true; the input reads as it did. -/
def fnExactAppendUptoRow : OpenClaim := { program := "ytgfhnepkpbmbcaa", sum := "7338647d969a98612feea611f657ed9192f8ac676a7b696f02f5bc74397e6017", func := "loop.example/g00492/laws.FnExactAppend", spec := "fnExactAppend", unfollowed := true, recurses := true, apart := false, narrowed := true }
def FnExactAppendUptoSaid : Prop := fnExactAppendUptoRow.holds Try.pinned (OpenSpec.upto fnExactAppendSpec)

/-- 'laws.FnExactReadLog', WHERE WHAT IT READS IS OF BULK AT MOST 1048576: true; the input reads as it did. -/
def fnExactReadLogUptoRow : OpenClaim := { program := "ytgfhnepkpbmbcaa", sum := "7338647d969a98612feea611f657ed9192f8ac676a7b696f02f5bc74397e6017", func := "loop.example/g00492/laws.FnExactReadLog", spec := "fnExactReadLog", unfollowed := true, recurses := true, apart := false, narrowed := true }
def FnExactReadLogUptoSaid : Prop := fnExactReadLogUptoRow.holds Try.pinned (OpenSpec.upto fnExactReadLogSpec)

end Rows
end Go.Proofs.Ytgfhnepkpbmbcaa
