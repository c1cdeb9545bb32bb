/-
  No cell of these rows narrows 'for every input' (looked for: loops, veiled, ifaces, maps, wideKeys, modest, calm, conditions, laid).
  DERIVED. THE GIVEN ROWS OF THIS SEAT. 6 by the template 'for every input the law returns true; each argument reads behind the call as it read before'; 0 by the template 'total and deterministic' (their statements: YteeiibdkpdaniaaTotals.lean).
  GIVEN WITH THE SEED: the statements are not yours to turn. If you find one false, say at which input.
  Laid BY PROGRAM, IN A SANDBOX (cutbox-rows.mjs): the forced cells as the released guide's own fill.sh prints them over the translation 273e3be1f39770a2… (all of the seat's roots in one cut). By AI agents, Wed Nov 11 2026. No macro, syntax, notation, axiom, sorry.
-/
import Derived.Test.YteeiibdkpdaniaaChecked
import GoSem.Claim
import GoSem.ClaimJoined
import GoSem.ClaimMapViews
import Derived.JoinedTies
import Derived.KernelRfl
namespace Go.Proofs.Yteeiibdkpdaniaa
/- THE CELL 'sum', in the pinned program and in every row, IS THE sha256 OF THE DUMP (.gsa) THAT YteeiibdkpdaniaaProg.lean LOADS. Nothing in Lean hashes anything: it is a label: what it is worth is what the hold of that sum in a sandbox is worth. -/
noncomputable def Try.pinned : Pinned := { name := "yteeiibdkpdaniaa", sum := "273e3be1f39770a248e7392e921990779c65dad9653e404e77263c9e99457d9a", checked := Try.checked }
namespace Rows
def none {H : Type} : Left H := { results := [], args := [] }

/-- 'laws.FnExactRead': WHATEVER THE INPUT: true; the input reads as it did. -/
def fnExactReadSpec : ChangeSpec := { name := "fnExactRead", fn := fun _ => fun
  | [d1, d2] => { results := [.lit (.bool true)], args := [d1, d2] }
  | _ => none }
def fnExactReadRow : OpenClaim := { program := "yteeiibdkpdaniaa", sum := "273e3be1f39770a248e7392e921990779c65dad9653e404e77263c9e99457d9a", func := "loop.example/g00492/laws.FnExactRead", spec := "fnExactRead", apart := false }
def FnExactReadSaid : Prop := fnExactReadRow.holds Try.pinned (OpenSpec.ofChange fnExactReadSpec)

/-- ITS FALSE NEIGHBOUR: 'it returns false'. Refute it at one input. -/
def fnExactReadWrong : ChangeSpec := { name := "fnExactRead", fn := fun _ => fun
  | [d1, d2] => { results := [.lit (.bool false)], args := [d1, d2] }
  | _ => none }
def FnExactReadWrongFalsely : Prop := fnExactReadRow.holds Try.pinned (OpenSpec.ofChange fnExactReadWrong)

/-- 'laws.FnExactTxOk': WHATEVER THE INPUT: true; the input reads as it did. -/
def fnExactTxOkSpec : ChangeSpec := { name := "fnExactTxOk", fn := fun _ => fun
  | [d] => { results := [.lit (.bool true)], args := [d] }
  | _ => none }
def fnExactTxOkRow : OpenClaim := { program := "yteeiibdkpdaniaa", sum := "273e3be1f39770a248e7392e921990779c65dad9653e404e77263c9e99457d9a", func := "loop.example/g00492/laws.FnExactTxOk", spec := "fnExactTxOk", unfollowed := true, recurses := true, apart := false }
def FnExactTxOkSaid : Prop := fnExactTxOkRow.holds Try.pinned (OpenSpec.ofChange fnExactTxOkSpec)

/-- ITS FALSE NEIGHBOUR: 'it returns false'. Refute it at one input. -/
def fnExactTxOkWrong : ChangeSpec := { name := "fnExactTxOk", fn := fun _ => fun
  | [d] => { results := [.lit (.bool false)], args := [d] }
  | _ => none }
def FnExactTxOkWrongFalsely : Prop := fnExactTxOkRow.holds Try.pinned (OpenSpec.ofChange fnExactTxOkWrong)

/-- 'laws.FnExactPageCell': WHATEVER THE INPUT: true; the input reads as it did. -/
def fnExactPageCellSpec : ChangeSpec := { name := "fnExactPageCell", fn := fun _ => fun
  | [d] => { results := [.lit (.bool true)], args := [d] }
  | _ => none }
def fnExactPageCellRow : OpenClaim := { program := "yteeiibdkpdaniaa", sum := "273e3be1f39770a248e7392e921990779c65dad9653e404e77263c9e99457d9a", func := "loop.example/g00492/laws.FnExactPageCell", spec := "fnExactPageCell", unfollowed := true, recurses := true, apart := false }
def FnExactPageCellSaid : Prop := fnExactPageCellRow.holds Try.pinned (OpenSpec.ofChange fnExactPageCellSpec)

/-- ITS FALSE NEIGHBOUR: 'it returns false'. Refute it at one input. -/
def fnExactPageCellWrong : ChangeSpec := { name := "fnExactPageCell", fn := fun _ => fun
  | [d] => { results := [.lit (.bool false)], args := [d] }
  | _ => none }
def FnExactPageCellWrongFalsely : Prop := fnExactPageCellRow.holds Try.pinned (OpenSpec.ofChange fnExactPageCellWrong)

/-- 'laws.FnExactGetEnd': WHATEVER THE INPUT: true; the input reads as it did. -/
def fnExactGetEndSpec : ChangeSpec := { name := "fnExactGetEnd", fn := fun _ => fun
  | [d1, d2] => { results := [.lit (.bool true)], args := [d1, d2] }
  | _ => none }
def fnExactGetEndRow : OpenClaim := { program := "yteeiibdkpdaniaa", sum := "273e3be1f39770a248e7392e921990779c65dad9653e404e77263c9e99457d9a", func := "loop.example/g00492/laws.FnExactGetEnd", spec := "fnExactGetEnd", apart := false }
def FnExactGetEndSaid : Prop := fnExactGetEndRow.holds Try.pinned (OpenSpec.ofChange fnExactGetEndSpec)

/-- ITS FALSE NEIGHBOUR: 'it returns false'. Refute it at one input. -/
def fnExactGetEndWrong : ChangeSpec := { name := "fnExactGetEnd", fn := fun _ => fun
  | [d1, d2] => { results := [.lit (.bool false)], args := [d1, d2] }
  | _ => none }
def FnExactGetEndWrongFalsely : Prop := fnExactGetEndRow.holds Try.pinned (OpenSpec.ofChange fnExactGetEndWrong)

/-- 'laws.FnExactPutCell': WHATEVER THE INPUT: true; the input reads as it did. -/
def fnExactPutCellSpec : ChangeSpec := { name := "fnExactPutCell", fn := fun _ => fun
  | [d1, d2] => { results := [.lit (.bool true)], args := [d1, d2] }
  | _ => none }
def fnExactPutCellRow : OpenClaim := { program := "yteeiibdkpdaniaa", sum := "273e3be1f39770a248e7392e921990779c65dad9653e404e77263c9e99457d9a", func := "loop.example/g00492/laws.FnExactPutCell", spec := "fnExactPutCell", unfollowed := true, recurses := true, apart := false }
def FnExactPutCellSaid : Prop := fnExactPutCellRow.holds Try.pinned (OpenSpec.ofChange fnExactPutCellSpec)

/-- ITS FALSE NEIGHBOUR: 'it returns false'. Refute it at one input. -/
def fnExactPutCellWrong : ChangeSpec := { name := "fnExactPutCell", fn := fun _ => fun
  | [d1, d2] => { results := [.lit (.bool false)], args := [d1, d2] }
  | _ => none }
def FnExactPutCellWrongFalsely : Prop := fnExactPutCellRow.holds Try.pinned (OpenSpec.ofChange fnExactPutCellWrong)

/-- 'laws.FnExactCut': WHATEVER THE INPUT: true; the input reads as it did. -/
def fnExactCutSpec : ChangeSpec := { name := "fnExactCut", fn := fun _ => fun
  | [d] => { results := [.lit (.bool true)], args := [d] }
  | _ => none }
def fnExactCutRow : OpenClaim := { program := "yteeiibdkpdaniaa", sum := "273e3be1f39770a248e7392e921990779c65dad9653e404e77263c9e99457d9a", func := "loop.example/g00492/laws.FnExactCut", spec := "fnExactCut", apart := false }
def FnExactCutSaid : Prop := fnExactCutRow.holds Try.pinned (OpenSpec.ofChange fnExactCutSpec)

/-- ITS FALSE NEIGHBOUR: 'it returns false'. Refute it at one input. -/
def fnExactCutWrong : ChangeSpec := { name := "fnExactCut", fn := fun _ => fun
  | [d] => { results := [.lit (.bool false)], args := [d] }
  | _ => none }
def FnExactCutWrongFalsely : Prop := fnExactCutRow.holds Try.pinned (OpenSpec.ofChange fnExactCutWrong)

/- THE SECOND FORM. 'bulk': how many values and letters a reading holds, each counted each time it is reached (what is shared counts as often as it is met; a slice's spare places count too). A statement '..UptoSaid' is the law's where the arguments, and the package variables that the reading takes, are together of bulk at most 1048576: NARROWER than '..Said'. Prove '..Said' where nothing that the law and all that it calls make is longer than what came in: it says more and counts as full. Else prove '..UptoSaid'. A law counts once. -/
mutual
def uptoBulk {H : Type} : DataW H → Nat
  | .lit (.string bytes) => bytes.length + 1
  | .lit _ => 1
  | .nil => 1
  | .ptr d => uptoBulk d + 1
  | .slice elems spare => uptoBulkAll elems + uptoBulkAll spare + 1
  | .agg parts => uptoBulkAll parts + 1
  | .iface _ d => uptoBulk d + 1
  | .map entries => uptoBulkEntries entries + 1
  | .held _ => 1
def uptoBulkAll {H : Type} : List (DataW H) → Nat
  | [] => 0
  | d :: r => uptoBulk d + uptoBulkAll r
def uptoBulkEntries {H : Type} : List (Lit × DataW H) → Nat
  | [] => 0
  | x :: r => uptoBulkEntry x + uptoBulkEntries r
def uptoBulkEntry {H : Type} : Lit × DataW H → Nat
  | (.string bytes, d) => bytes.length + uptoBulk d + 1
  | (_, d) => uptoBulk d + 1
 end
def uptoSmall : (H : Type) → List (DataW H) → Bool := fun _ ds => decide (uptoBulkAll ds ≤ 1048576)
def OpenSpec.upto (s : _root_.Go.ChangeSpec) : _root_.Go.OpenSpec := { _root_.Go.OpenSpec.ofChange s with cond := some uptoSmall }

/-- 'laws.FnExactRead', WHERE WHAT IT READS IS OF BULK AT MOST 1048576: true; the input reads as it did. -/
def fnExactReadUptoRow : OpenClaim := { program := "yteeiibdkpdaniaa", sum := "273e3be1f39770a248e7392e921990779c65dad9653e404e77263c9e99457d9a", func := "loop.example/g00492/laws.FnExactRead", spec := "fnExactRead", apart := false, narrowed := true }
def FnExactReadUptoSaid : Prop := fnExactReadUptoRow.holds Try.pinned (OpenSpec.upto fnExactReadSpec)

/-- 'laws.FnExactTxOk', WHERE WHAT IT READS IS OF BULK AT MOST 1048576: true; the input reads as it did. -/
def fnExactTxOkUptoRow : OpenClaim := { program := "yteeiibdkpdaniaa", sum := "273e3be1f39770a248e7392e921990779c65dad9653e404e77263c9e99457d9a", func := "loop.example/g00492/laws.FnExactTxOk", spec := "fnExactTxOk", unfollowed := true, recurses := true, apart := false, narrowed := true }
def FnExactTxOkUptoSaid : Prop := fnExactTxOkUptoRow.holds Try.pinned (OpenSpec.upto fnExactTxOkSpec)

/-- 'laws.FnExactPageCell', WHERE WHAT IT READS IS OF BULK AT MOST 1048576: true; the input reads as it did. -/
def fnExactPageCellUptoRow : OpenClaim := { program := "yteeiibdkpdaniaa", sum := "273e3be1f39770a248e7392e921990779c65dad9653e404e77263c9e99457d9a", func := "loop.example/g00492/laws.FnExactPageCell", spec := "fnExactPageCell", unfollowed := true, recurses := true, apart := false, narrowed := true }
def FnExactPageCellUptoSaid : Prop := fnExactPageCellUptoRow.holds Try.pinned (OpenSpec.upto fnExactPageCellSpec)

/-- 'laws.FnExactGetEnd', WHERE WHAT IT READS IS OF BULK AT MOST 1048576: true; the input reads as it did. -/
def fnExactGetEndUptoRow : OpenClaim := { program := "yteeiibdkpdaniaa", sum := "273e3be1f39770a248e7392e921990779c65dad9653e404e77263c9e99457d9a", func := "loop.example/g00492/laws.FnExactGetEnd", spec := "fnExactGetEnd", apart := false, narrowed := true }
def FnExactGetEndUptoSaid : Prop := fnExactGetEndUptoRow.holds Try.pinned (OpenSpec.upto fnExactGetEndSpec)

/-- 'laws.FnExactPutCell', WHERE WHAT IT READS IS OF BULK AT MOST 1048576: true; the input reads as it did. -/
def fnExactPutCellUptoRow : OpenClaim := { program := "yteeiibdkpdaniaa", sum := "273e3be1f39770a248e7392e921990779c65dad9653e404e77263c9e99457d9a", func := "loop.example/g00492/laws.FnExactPutCell", spec := "fnExactPutCell", unfollowed := true, recurses := true, apart := false, narrowed := true }
def FnExactPutCellUptoSaid : Prop := fnExactPutCellUptoRow.holds Try.pinned (OpenSpec.upto fnExactPutCellSpec)

/-- 'laws.FnExactCut', WHERE WHAT IT READS IS OF BULK AT MOST 1048576: true; the input reads as it did. -/
def fnExactCutUptoRow : OpenClaim := { program := "yteeiibdkpdaniaa", sum := "273e3be1f39770a248e7392e921990779c65dad9653e404e77263c9e99457d9a", func := "loop.example/g00492/laws.FnExactCut", spec := "fnExactCut", apart := false, narrowed := true }
def FnExactCutUptoSaid : Prop := fnExactCutUptoRow.holds Try.pinned (OpenSpec.upto fnExactCutSpec)

end Rows
end Go.Proofs.Yteeiibdkpdaniaa
