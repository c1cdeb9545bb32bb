/-
  No cell of these rows narrows 'for every input' (looked for: loops, veiled, ifaces, maps, wideKeys, modest, calm, conditions, laid).
  DERIVED. THE GIVEN ROWS OF THIS SEAT. 6 by the template 'for every input the law returns true; each argument reads behind the call as it read before'; 0 by the template 'total and deterministic' (their statements: YtkhommmhkeohbaaTotals.lean).
  GIVEN WITH THE SEED: the statements are not yours to turn. If you find one false, say at which input.
  Laid BY PROGRAM, IN A SANDBOX (cutbox-rows.mjs): the forced cells as the released guide's own fill.sh prints them over the translation 854428c26234fe82… (all of the seat's roots in one cut). By AI agents, Wed Nov 11 2026. No macro, syntax, notation, axiom, sorry.
-/
import Derived.Test.YtkhommmhkeohbaaChecked
import GoSem.Claim
import GoSem.ClaimJoined
import GoSem.ClaimMapViews
import Derived.JoinedTies
import Derived.KernelRfl
namespace Go.Proofs.Ytkhommmhkeohbaa
/- THE CELL 'sum', in the pinned program and in every row, IS THE sha256 OF THE DUMP (.gsa) THAT YtkhommmhkeohbaaProg.lean LOADS. Nothing in Lean hashes anything: it is a label: what it is worth is what the hold of that sum in a sandbox is worth. -/
noncomputable def Try.pinned : Pinned := { name := "ytkhommmhkeohbaa", sum := "854428c26234fe82cab6bf291f05fb4a390d266a268dc0dda24ffda8bc0958d2", checked := Try.checked }
namespace Rows
def none {H : Type} : Left H := { results := [], args := [] }

/-- 'laws.FnDisks': WHATEVER THE INPUT: true; the input reads as it did. -/
def fnDisksSpec : ChangeSpec := { name := "fnDisks", fn := fun _ => fun
  | [d] => { results := [.lit (.bool true)], args := [d] }
  | _ => none }
def fnDisksRow : OpenClaim := { program := "ytkhommmhkeohbaa", sum := "854428c26234fe82cab6bf291f05fb4a390d266a268dc0dda24ffda8bc0958d2", func := "loop.example/g00492/laws.FnDisks", spec := "fnDisks", apart := false }
def FnDisksSaid : Prop := fnDisksRow.holds Try.pinned (OpenSpec.ofChange fnDisksSpec)

/-- ITS FALSE NEIGHBOUR: 'it returns false'. Refute it at one input. -/
def fnDisksWrong : ChangeSpec := { name := "fnDisks", fn := fun _ => fun
  | [d] => { results := [.lit (.bool false)], args := [d] }
  | _ => none }
def FnDisksWrongFalsely : Prop := fnDisksRow.holds Try.pinned (OpenSpec.ofChange fnDisksWrong)

/-- 'laws.FnFrames': WHATEVER THE INPUT: true; the input reads as it did. -/
def fnFramesSpec : ChangeSpec := { name := "fnFrames", fn := fun _ => fun
  | [d] => { results := [.lit (.bool true)], args := [d] }
  | _ => none }
def fnFramesRow : OpenClaim := { program := "ytkhommmhkeohbaa", sum := "854428c26234fe82cab6bf291f05fb4a390d266a268dc0dda24ffda8bc0958d2", func := "loop.example/g00492/laws.FnFrames", spec := "fnFrames", unfollowed := true, recurses := true, apart := false }
def FnFramesSaid : Prop := fnFramesRow.holds Try.pinned (OpenSpec.ofChange fnFramesSpec)

/-- ITS FALSE NEIGHBOUR: 'it returns false'. Refute it at one input. -/
def fnFramesWrong : ChangeSpec := { name := "fnFrames", fn := fun _ => fun
  | [d] => { results := [.lit (.bool false)], args := [d] }
  | _ => none }
def FnFramesWrongFalsely : Prop := fnFramesRow.holds Try.pinned (OpenSpec.ofChange fnFramesWrong)

/-- 'laws.FnHeads': WHATEVER THE INPUT: true; the input reads as it did. -/
def fnHeadsSpec : ChangeSpec := { name := "fnHeads", fn := fun _ => fun
  | [d] => { results := [.lit (.bool true)], args := [d] }
  | _ => none }
def fnHeadsRow : OpenClaim := { program := "ytkhommmhkeohbaa", sum := "854428c26234fe82cab6bf291f05fb4a390d266a268dc0dda24ffda8bc0958d2", func := "loop.example/g00492/laws.FnHeads", spec := "fnHeads", apart := false }
def FnHeadsSaid : Prop := fnHeadsRow.holds Try.pinned (OpenSpec.ofChange fnHeadsSpec)

/-- ITS FALSE NEIGHBOUR: 'it returns false'. Refute it at one input. -/
def fnHeadsWrong : ChangeSpec := { name := "fnHeads", fn := fun _ => fun
  | [d] => { results := [.lit (.bool false)], args := [d] }
  | _ => none }
def FnHeadsWrongFalsely : Prop := fnHeadsRow.holds Try.pinned (OpenSpec.ofChange fnHeadsWrong)

/-- 'laws.FnLogs': WHATEVER THE INPUT: true; the input reads as it did. -/
def fnLogsSpec : ChangeSpec := { name := "fnLogs", fn := fun _ => fun
  | [d] => { results := [.lit (.bool true)], args := [d] }
  | _ => none }
def fnLogsRow : OpenClaim := { program := "ytkhommmhkeohbaa", sum := "854428c26234fe82cab6bf291f05fb4a390d266a268dc0dda24ffda8bc0958d2", func := "loop.example/g00492/laws.FnLogs", spec := "fnLogs", unfollowed := true, recurses := true, apart := false }
def FnLogsSaid : Prop := fnLogsRow.holds Try.pinned (OpenSpec.ofChange fnLogsSpec)

/-- ITS FALSE NEIGHBOUR: 'it returns false'. Refute it at one input. -/
def fnLogsWrong : ChangeSpec := { name := "fnLogs", fn := fun _ => fun
  | [d] => { results := [.lit (.bool false)], args := [d] }
  | _ => none }
def FnLogsWrongFalsely : Prop := fnLogsRow.holds Try.pinned (OpenSpec.ofChange fnLogsWrong)

/-- 'laws.FnFramesBent': WHATEVER THE INPUT: true; the input reads as it did. -/
def fnFramesBentSpec : ChangeSpec := { name := "fnFramesBent", fn := fun _ => fun
  | [d] => { results := [.lit (.bool true)], args := [d] }
  | _ => none }
def fnFramesBentRow : OpenClaim := { program := "ytkhommmhkeohbaa", sum := "854428c26234fe82cab6bf291f05fb4a390d266a268dc0dda24ffda8bc0958d2", func := "loop.example/g00492/laws.FnFramesBent", spec := "fnFramesBent", unfollowed := true, recurses := true, apart := false }
def FnFramesBentSaid : Prop := fnFramesBentRow.holds Try.pinned (OpenSpec.ofChange fnFramesBentSpec)

/-- ITS FALSE NEIGHBOUR: 'it returns false'. Refute it at one input. -/
def fnFramesBentWrong : ChangeSpec := { name := "fnFramesBent", fn := fun _ => fun
  | [d] => { results := [.lit (.bool false)], args := [d] }
  | _ => none }
def FnFramesBentWrongFalsely : Prop := fnFramesBentRow.holds Try.pinned (OpenSpec.ofChange fnFramesBentWrong)

/-- 'laws.FnLogsBent': WHATEVER THE INPUT: true; the input reads as it did. -/
def fnLogsBentSpec : ChangeSpec := { name := "fnLogsBent", fn := fun _ => fun
  | [d] => { results := [.lit (.bool true)], args := [d] }
  | _ => none }
def fnLogsBentRow : OpenClaim := { program := "ytkhommmhkeohbaa", sum := "854428c26234fe82cab6bf291f05fb4a390d266a268dc0dda24ffda8bc0958d2", func := "loop.example/g00492/laws.FnLogsBent", spec := "fnLogsBent", unfollowed := true, recurses := true, apart := false }
def FnLogsBentSaid : Prop := fnLogsBentRow.holds Try.pinned (OpenSpec.ofChange fnLogsBentSpec)

/-- ITS FALSE NEIGHBOUR: 'it returns false'. Refute it at one input. -/
def fnLogsBentWrong : ChangeSpec := { name := "fnLogsBent", fn := fun _ => fun
  | [d] => { results := [.lit (.bool false)], args := [d] }
  | _ => none }
def FnLogsBentWrongFalsely : Prop := fnLogsBentRow.holds Try.pinned (OpenSpec.ofChange fnLogsBentWrong)

/- THE SECOND FORM. 'bulk': how many values and letters a reading holds, each counted each time it is reached (what is shared counts as often as it is met; a slice's spare places count too). A statement '..UptoSaid' is the law's where the arguments, and the package variables that the reading takes, are together of bulk at most 1048576: NARROWER than '..Said'. Prove '..Said' where nothing that the law and all that it calls make is longer than what came in: it says more and counts as full. Else prove '..UptoSaid'. A law counts once. -/
mutual
def uptoBulk {H : Type} : DataW H → Nat
  | .lit (.string bytes) => bytes.length + 1
  | .lit _ => 1
  | .nil => 1
  | .ptr d => uptoBulk d + 1
  | .slice elems spare => uptoBulkAll elems + uptoBulkAll spare + 1
  | .agg parts => uptoBulkAll parts + 1
  | .iface _ d => uptoBulk d + 1
  | .map entries => uptoBulkEntries entries + 1
  | .held _ => 1
def uptoBulkAll {H : Type} : List (DataW H) → Nat
  | [] => 0
  | d :: r => uptoBulk d + uptoBulkAll r
def uptoBulkEntries {H : Type} : List (Lit × DataW H) → Nat
  | [] => 0
  | x :: r => uptoBulkEntry x + uptoBulkEntries r
def uptoBulkEntry {H : Type} : Lit × DataW H → Nat
  | (.string bytes, d) => bytes.length + uptoBulk d + 1
  | (_, d) => uptoBulk d + 1
 end
def uptoSmall : (H : Type) → List (DataW H) → Bool := fun _ ds => decide (uptoBulkAll ds ≤ 1048576)
def OpenSpec.upto (s : _root_.Go.ChangeSpec) : _root_.Go.OpenSpec := { _root_.Go.OpenSpec.ofChange s with cond := some uptoSmall }

/-- 'laws.FnDisks', WHERE WHAT IT READS IS OF BULK AT MOST 1048576: true; the input reads as it did. -/
def fnDisksUptoRow : OpenClaim := { program := "ytkhommmhkeohbaa", sum := "854428c26234fe82cab6bf291f05fb4a390d266a268dc0dda24ffda8bc0958d2", func := "loop.example/g00492/laws.FnDisks", spec := "fnDisks", apart := false, narrowed := true }
def FnDisksUptoSaid : Prop := fnDisksUptoRow.holds Try.pinned (OpenSpec.upto fnDisksSpec)

/-- 'laws.FnFrames', WHERE WHAT IT READS IS OF BULK AT MOST 1048576: true; the input reads as it did. -/
def fnFramesUptoRow : OpenClaim := { program := "ytkhommmhkeohbaa", sum := "854428c26234fe82cab6bf291f05fb4a390d266a268dc0dda24ffda8bc0958d2", func := "loop.example/g00492/laws.FnFrames", spec := "fnFrames", unfollowed := true, recurses := true, apart := false, narrowed := true }
def FnFramesUptoSaid : Prop := fnFramesUptoRow.holds Try.pinned (OpenSpec.upto fnFramesSpec)

/-- 'laws.FnHeads', WHERE WHAT IT READS IS OF BULK AT MOST 1048576: true; the input reads as it did. -/
def fnHeadsUptoRow : OpenClaim := { program := "ytkhommmhkeohbaa", sum := "854428c26234fe82cab6bf291f05fb4a390d266a268dc0dda24ffda8bc0958d2", func := "loop.example/g00492/laws.FnHeads", spec := "fnHeads", apart := false, narrowed := true }
def FnHeadsUptoSaid : Prop := fnHeadsUptoRow.holds Try.pinned (OpenSpec.upto fnHeadsSpec)

/-- 'laws.FnLogs', WHERE WHAT IT READS IS OF BULK AT MOST 1048576: true; the input reads as it did. -/
def fnLogsUptoRow : OpenClaim := { program := "ytkhommmhkeohbaa", sum := "854428c26234fe82cab6bf291f05fb4a390d266a268dc0dda24ffda8bc0958d2", func := "loop.example/g00492/laws.FnLogs", spec := "fnLogs", unfollowed := true, recurses := true, apart := false, narrowed := true }
def FnLogsUptoSaid : Prop := fnLogsUptoRow.holds Try.pinned (OpenSpec.upto fnLogsSpec)

/-- 'laws.FnFramesBent', WHERE WHAT IT READS IS OF BULK AT MOST 1048576: true; the input reads as it did. -/
def fnFramesBentUptoRow : OpenClaim := { program := "ytkhommmhkeohbaa", sum := "854428c26234fe82cab6bf291f05fb4a390d266a268dc0dda24ffda8bc0958d2", func := "loop.example/g00492/laws.FnFramesBent", spec := "fnFramesBent", unfollowed := true, recurses := true, apart := false, narrowed := true }
def FnFramesBentUptoSaid : Prop := fnFramesBentUptoRow.holds Try.pinned (OpenSpec.upto fnFramesBentSpec)

/-- 'laws.FnLogsBent', WHERE WHAT IT READS IS OF BULK AT MOST 1048576: true; the input reads as it did. -/
def fnLogsBentUptoRow : OpenClaim := { program := "ytkhommmhkeohbaa", sum := "854428c26234fe82cab6bf291f05fb4a390d266a268dc0dda24ffda8bc0958d2", func := "loop.example/g00492/laws.FnLogsBent", spec := "fnLogsBent", unfollowed := true, recurses := true, apart := false, narrowed := true }
def FnLogsBentUptoSaid : Prop := fnLogsBentUptoRow.holds Try.pinned (OpenSpec.upto fnLogsBentSpec)

end Rows
end Go.Proofs.Ytkhommmhkeohbaa
