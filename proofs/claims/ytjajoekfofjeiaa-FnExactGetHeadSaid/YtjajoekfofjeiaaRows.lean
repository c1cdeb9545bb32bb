/-
  No cell of these rows narrows 'for every input' (looked for: loops, veiled, ifaces, maps, wideKeys, modest, calm, conditions, laid).
  DERIVED. THE GIVEN ROWS OF THIS SEAT. 5 by the template 'for every input the law returns true; each argument reads behind the call as it read before'; 0 by the template 'total and deterministic' (their statements: YtjajoekfofjeiaaTotals.lean).
  GIVEN WITH THE SEED: the statements are not yours to turn. If you find one false, say at which input.
  Laid BY PROGRAM, IN A SANDBOX (cutbox-rows.mjs): the forced cells as the released guide's own fill.sh prints them over the translation 234cd6b2ac022dc7… (all of the seat's roots in one cut). By AI agents, Wed Nov 11 2026. No macro, syntax, notation, axiom, sorry.
-/
import Derived.Test.YtjajoekfofjeiaaChecked
import GoSem.Claim
import GoSem.ClaimJoined
import GoSem.ClaimMapViews
import Derived.JoinedTies
import Derived.KernelRfl
namespace Go.Proofs.Ytjajoekfofjeiaa
/- THE CELL 'sum', in the pinned program and in every row, IS THE sha256 OF THE DUMP (.gsa) THAT YtjajoekfofjeiaaProg.lean LOADS. Nothing in Lean hashes anything: it is a label: what it is worth is what the hold of that sum in a sandbox is worth. -/
noncomputable def Try.pinned : Pinned := { name := "ytjajoekfofjeiaa", sum := "234cd6b2ac022dc7f144b94fc351d713f997e129808b145bc76af37600b77e27", checked := Try.checked }
namespace Rows
def none {H : Type} : Left H := { results := [], args := [] }

/-- 'laws.FnExactHeadOk': WHATEVER THE INPUT: true; the input reads as it did. -/
def fnExactHeadOkSpec : ChangeSpec := { name := "fnExactHeadOk", fn := fun _ => fun
  | [d] => { results := [.lit (.bool true)], args := [d] }
  | _ => none }
def fnExactHeadOkRow : OpenClaim := { program := "ytjajoekfofjeiaa", sum := "234cd6b2ac022dc7f144b94fc351d713f997e129808b145bc76af37600b77e27", func := "loop.example/g00492/laws.FnExactHeadOk", spec := "fnExactHeadOk", apart := false }
def FnExactHeadOkSaid : Prop := fnExactHeadOkRow.holds Try.pinned (OpenSpec.ofChange fnExactHeadOkSpec)

/-- ITS FALSE NEIGHBOUR: 'it returns false'. Refute it at one input. -/
def fnExactHeadOkWrong : ChangeSpec := { name := "fnExactHeadOk", fn := fun _ => fun
  | [d] => { results := [.lit (.bool false)], args := [d] }
  | _ => none }
def FnExactHeadOkWrongFalsely : Prop := fnExactHeadOkRow.holds Try.pinned (OpenSpec.ofChange fnExactHeadOkWrong)

/-- 'laws.FnExactHeadCell': WHATEVER THE INPUT: true; the input reads as it did. -/
def fnExactHeadCellSpec : ChangeSpec := { name := "fnExactHeadCell", fn := fun _ => fun
  | [d] => { results := [.lit (.bool true)], args := [d] }
  | _ => none }
def fnExactHeadCellRow : OpenClaim := { program := "ytjajoekfofjeiaa", sum := "234cd6b2ac022dc7f144b94fc351d713f997e129808b145bc76af37600b77e27", func := "loop.example/g00492/laws.FnExactHeadCell", spec := "fnExactHeadCell", apart := false }
def FnExactHeadCellSaid : Prop := fnExactHeadCellRow.holds Try.pinned (OpenSpec.ofChange fnExactHeadCellSpec)

/-- ITS FALSE NEIGHBOUR: 'it returns false'. Refute it at one input. -/
def fnExactHeadCellWrong : ChangeSpec := { name := "fnExactHeadCell", fn := fun _ => fun
  | [d] => { results := [.lit (.bool false)], args := [d] }
  | _ => none }
def FnExactHeadCellWrongFalsely : Prop := fnExactHeadCellRow.holds Try.pinned (OpenSpec.ofChange fnExactHeadCellWrong)

/-- 'laws.FnExactDiskNew': WHATEVER THE INPUT: true; the input reads as it did. -/
def fnExactDiskNewSpec : ChangeSpec := { name := "fnExactDiskNew", fn := fun _ => fun
  | [] => { results := [.lit (.bool true)], args := [] }
  | _ => none }
def fnExactDiskNewRow : OpenClaim := { program := "ytjajoekfofjeiaa", sum := "234cd6b2ac022dc7f144b94fc351d713f997e129808b145bc76af37600b77e27", func := "loop.example/g00492/laws.FnExactDiskNew", spec := "fnExactDiskNew", apart := false }
def FnExactDiskNewSaid : Prop := fnExactDiskNewRow.holds Try.pinned (OpenSpec.ofChange fnExactDiskNewSpec)

/-- ITS FALSE NEIGHBOUR: 'it returns false'. Refute it at one input. -/
def fnExactDiskNewWrong : ChangeSpec := { name := "fnExactDiskNew", fn := fun _ => fun
  | [] => { results := [.lit (.bool false)], args := [] }
  | _ => none }
def FnExactDiskNewWrongFalsely : Prop := fnExactDiskNewRow.holds Try.pinned (OpenSpec.ofChange fnExactDiskNewWrong)

/-- 'laws.FnExactGetHead': WHATEVER THE INPUT: true; the input reads as it did. -/
def fnExactGetHeadSpec : ChangeSpec := { name := "fnExactGetHead", fn := fun _ => fun
  | [d] => { results := [.lit (.bool true)], args := [d] }
  | _ => none }
def fnExactGetHeadRow : OpenClaim := { program := "ytjajoekfofjeiaa", sum := "234cd6b2ac022dc7f144b94fc351d713f997e129808b145bc76af37600b77e27", func := "loop.example/g00492/laws.FnExactGetHead", spec := "fnExactGetHead", apart := false }
def FnExactGetHeadSaid : Prop := fnExactGetHeadRow.holds Try.pinned (OpenSpec.ofChange fnExactGetHeadSpec)

/-- ITS FALSE NEIGHBOUR: 'it returns false'. Refute it at one input. -/
def fnExactGetHeadWrong : ChangeSpec := { name := "fnExactGetHead", fn := fun _ => fun
  | [d] => { results := [.lit (.bool false)], args := [d] }
  | _ => none }
def FnExactGetHeadWrongFalsely : Prop := fnExactGetHeadRow.holds Try.pinned (OpenSpec.ofChange fnExactGetHeadWrong)

/-- 'laws.FnExactBusy': WHATEVER THE INPUT: true; the input reads as it did. -/
def fnExactBusySpec : ChangeSpec := { name := "fnExactBusy", fn := fun _ => fun
  | [d] => { results := [.lit (.bool true)], args := [d] }
  | _ => none }
def fnExactBusyRow : OpenClaim := { program := "ytjajoekfofjeiaa", sum := "234cd6b2ac022dc7f144b94fc351d713f997e129808b145bc76af37600b77e27", func := "loop.example/g00492/laws.FnExactBusy", spec := "fnExactBusy", apart := false }
def FnExactBusySaid : Prop := fnExactBusyRow.holds Try.pinned (OpenSpec.ofChange fnExactBusySpec)

/-- ITS FALSE NEIGHBOUR: 'it returns false'. Refute it at one input. -/
def fnExactBusyWrong : ChangeSpec := { name := "fnExactBusy", fn := fun _ => fun
  | [d] => { results := [.lit (.bool false)], args := [d] }
  | _ => none }
def FnExactBusyWrongFalsely : Prop := fnExactBusyRow.holds Try.pinned (OpenSpec.ofChange fnExactBusyWrong)

/- THE SECOND FORM. 'bulk': how many values and letters a reading holds, each counted each time it is reached (what is shared counts as often as it is met; a slice's spare places count too). A statement '..UptoSaid' is the law's where the arguments, and the package variables that the reading takes, are together of bulk at most 1048576: NARROWER than '..Said'. Prove '..Said' where nothing that the law and all that it calls make is longer than what came in: it says more and counts as full. Else prove '..UptoSaid'. A law counts once. -/
mutual
def uptoBulk {H : Type} : DataW H → Nat
  | .lit (.string bytes) => bytes.length + 1
  | .lit _ => 1
  | .nil => 1
  | .ptr d => uptoBulk d + 1
  | .slice elems spare => uptoBulkAll elems + uptoBulkAll spare + 1
  | .agg parts => uptoBulkAll parts + 1
  | .iface _ d => uptoBulk d + 1
  | .map entries => uptoBulkEntries entries + 1
  | .held _ => 1
def uptoBulkAll {H : Type} : List (DataW H) → Nat
  | [] => 0
  | d :: r => uptoBulk d + uptoBulkAll r
def uptoBulkEntries {H : Type} : List (Lit × DataW H) → Nat
  | [] => 0
  | x :: r => uptoBulkEntry x + uptoBulkEntries r
def uptoBulkEntry {H : Type} : Lit × DataW H → Nat
  | (.string bytes, d) => bytes.length + uptoBulk d + 1
  | (_, d) => uptoBulk d + 1
 end
def uptoSmall : (H : Type) → List (DataW H) → Bool := fun _ ds => decide (uptoBulkAll ds ≤ 1048576)
def OpenSpec.upto (s : _root_.Go.ChangeSpec) : _root_.Go.OpenSpec := { _root_.Go.OpenSpec.ofChange s with cond := some uptoSmall }

/-- 'laws.FnExactHeadOk', WHERE WHAT IT READS IS OF BULK AT MOST 1048576: true; the input reads as it did. -/
def fnExactHeadOkUptoRow : OpenClaim := { program := "ytjajoekfofjeiaa", sum := "234cd6b2ac022dc7f144b94fc351d713f997e129808b145bc76af37600b77e27", func := "loop.example/g00492/laws.FnExactHeadOk", spec := "fnExactHeadOk", apart := false, narrowed := true }
def FnExactHeadOkUptoSaid : Prop := fnExactHeadOkUptoRow.holds Try.pinned (OpenSpec.upto fnExactHeadOkSpec)

/-- 'laws.FnExactHeadCell', WHERE WHAT IT READS IS OF BULK AT MOST 1048576: true; the input reads as it did. -/
def fnExactHeadCellUptoRow : OpenClaim := { program := "ytjajoekfofjeiaa", sum := "234cd6b2ac022dc7f144b94fc351d713f997e129808b145bc76af37600b77e27", func := "loop.example/g00492/laws.FnExactHeadCell", spec := "fnExactHeadCell", apart := false, narrowed := true }
def FnExactHeadCellUptoSaid : Prop := fnExactHeadCellUptoRow.holds Try.pinned (OpenSpec.upto fnExactHeadCellSpec)

/-- 'laws.FnExactDiskNew', WHERE WHAT IT READS IS OF BULK AT MOST 1048576: true; the input reads as it did. -/
def fnExactDiskNewUptoRow : OpenClaim := { program := "ytjajoekfofjeiaa", sum := "234cd6b2ac022dc7f144b94fc351d713f997e129808b145bc76af37600b77e27", func := "loop.example/g00492/laws.FnExactDiskNew", spec := "fnExactDiskNew", apart := false, narrowed := true }
def FnExactDiskNewUptoSaid : Prop := fnExactDiskNewUptoRow.holds Try.pinned (OpenSpec.upto fnExactDiskNewSpec)

/-- 'laws.FnExactGetHead', WHERE WHAT IT READS IS OF BULK AT MOST 1048576: true; the input reads as it did. -/
def fnExactGetHeadUptoRow : OpenClaim := { program := "ytjajoekfofjeiaa", sum := "234cd6b2ac022dc7f144b94fc351d713f997e129808b145bc76af37600b77e27", func := "loop.example/g00492/laws.FnExactGetHead", spec := "fnExactGetHead", apart := false, narrowed := true }
def FnExactGetHeadUptoSaid : Prop := fnExactGetHeadUptoRow.holds Try.pinned (OpenSpec.upto fnExactGetHeadSpec)

/-- 'laws.FnExactBusy', WHERE WHAT IT READS IS OF BULK AT MOST 1048576: true; the input reads as it did. -/
def fnExactBusyUptoRow : OpenClaim := { program := "ytjajoekfofjeiaa", sum := "234cd6b2ac022dc7f144b94fc351d713f997e129808b145bc76af37600b77e27", func := "loop.example/g00492/laws.FnExactBusy", spec := "fnExactBusy", apart := false, narrowed := true }
def FnExactBusyUptoSaid : Prop := fnExactBusyUptoRow.holds Try.pinned (OpenSpec.upto fnExactBusySpec)

end Rows
end Go.Proofs.Ytjajoekfofjeiaa
