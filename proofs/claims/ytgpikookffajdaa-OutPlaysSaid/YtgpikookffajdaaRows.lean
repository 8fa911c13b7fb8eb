/-
  No cell of these rows narrows 'for every input' (looked for: loops, veiled, ifaces, maps, wideKeys, modest, calm, conditions, laid).
  DERIVED. THE GIVEN ROWS OF THIS SEAT. 5 by the template 'for every input the law returns true; each argument reads behind the call as it read before'; 0 by the template 'total and deterministic' (their statements: YtgpikookffajdaaTotals.lean).
  GIVEN WITH THE SEED: the statements are not yours to turn. If you find one false, say at which input.
  Laid BY PROGRAM, IN A SANDBOX (cutbox-rows.mjs): the forced cells as the released guide's own fill.sh prints them over the translation d86d7818993fff64… (all of the seat's roots in one cut). By AI agents, Wed Nov 11 2026. No macro, syntax, notation, axiom, sorry.
-/
import Derived.Test.YtgpikookffajdaaChecked
import GoSem.Claim
import GoSem.ClaimJoined
import GoSem.ClaimMapViews
import Derived.JoinedTies
import Derived.KernelRfl
namespace Go.Proofs.Ytgpikookffajdaa
/- THE CELL 'sum', in the pinned program and in every row, IS THE sha256 OF THE DUMP (.gsa) THAT YtgpikookffajdaaProg.lean LOADS. Nothing in Lean hashes anything: it is a label: what it is worth is what the hold of that sum in a sandbox is worth. -/
noncomputable def Try.pinned : Pinned := { name := "ytgpikookffajdaa", sum := "d86d7818993fff6435d2d7099e4a213df4cbb2431e75c167cf6c0ef0250860ef", checked := Try.checked }
namespace Rows
def none {H : Type} : Left H := { results := [], args := [] }

/-- 'jobberlaw22.OutRuns': WHATEVER THE INPUT: true; the input reads as it did. -/
def outRunsSpec : ChangeSpec := { name := "outRuns", fn := fun _ => fun
  | [] => { results := [.lit (.bool true)], args := [] }
  | _ => none }
def outRunsRow : OpenClaim := { program := "ytgpikookffajdaa", sum := "d86d7818993fff6435d2d7099e4a213df4cbb2431e75c167cf6c0ef0250860ef", func := "jobber/jobberlaw22.OutRuns", spec := "outRuns", apart := false }
def OutRunsSaid : Prop := outRunsRow.holds Try.pinned (OpenSpec.ofChange outRunsSpec)

/-- ITS FALSE NEIGHBOUR: 'it returns false'. Refute it at one input. -/
def outRunsWrong : ChangeSpec := { name := "outRuns", fn := fun _ => fun
  | [] => { results := [.lit (.bool false)], args := [] }
  | _ => none }
def OutRunsWrongFalsely : Prop := outRunsRow.holds Try.pinned (OpenSpec.ofChange outRunsWrong)

/-- 'jobberlaw22.OutTwins': WHATEVER THE INPUT: true; the input reads as it did. -/
def outTwinsSpec : ChangeSpec := { name := "outTwins", fn := fun _ => fun
  | [d1, d2, d3] => { results := [.lit (.bool true)], args := [d1, d2, d3] }
  | _ => none }
def outTwinsRow : OpenClaim := { program := "ytgpikookffajdaa", sum := "d86d7818993fff6435d2d7099e4a213df4cbb2431e75c167cf6c0ef0250860ef", func := "jobber/jobberlaw22.OutTwins", spec := "outTwins", apart := false }
def OutTwinsSaid : Prop := outTwinsRow.holds Try.pinned (OpenSpec.ofChange outTwinsSpec)

/-- ITS FALSE NEIGHBOUR: 'it returns false'. Refute it at one input. -/
def outTwinsWrong : ChangeSpec := { name := "outTwins", fn := fun _ => fun
  | [d1, d2, d3] => { results := [.lit (.bool false)], args := [d1, d2, d3] }
  | _ => none }
def OutTwinsWrongFalsely : Prop := outTwinsRow.holds Try.pinned (OpenSpec.ofChange outTwinsWrong)

/-- 'jobberlaw22.OutPlays': WHATEVER THE INPUT: true; the input reads as it did. -/
def outPlaysSpec : ChangeSpec := { name := "outPlays", fn := fun _ => fun
  | [d] => { results := [.lit (.bool true)], args := [d] }
  | _ => none }
def outPlaysRow : OpenClaim := { program := "ytgpikookffajdaa", sum := "d86d7818993fff6435d2d7099e4a213df4cbb2431e75c167cf6c0ef0250860ef", func := "jobber/jobberlaw22.OutPlays", spec := "outPlays", apart := false }
def OutPlaysSaid : Prop := outPlaysRow.holds Try.pinned (OpenSpec.ofChange outPlaysSpec)

/-- ITS FALSE NEIGHBOUR: 'it returns false'. Refute it at one input. -/
def outPlaysWrong : ChangeSpec := { name := "outPlays", fn := fun _ => fun
  | [d] => { results := [.lit (.bool false)], args := [d] }
  | _ => none }
def OutPlaysWrongFalsely : Prop := outPlaysRow.holds Try.pinned (OpenSpec.ofChange outPlaysWrong)

/-- 'jobberlaw22.OutOrder': WHATEVER THE INPUT: true; the input reads as it did. -/
def outOrderSpec : ChangeSpec := { name := "outOrder", fn := fun _ => fun
  | [d1, d2] => { results := [.lit (.bool true)], args := [d1, d2] }
  | _ => none }
def outOrderRow : OpenClaim := { program := "ytgpikookffajdaa", sum := "d86d7818993fff6435d2d7099e4a213df4cbb2431e75c167cf6c0ef0250860ef", func := "jobber/jobberlaw22.OutOrder", spec := "outOrder", apart := false }
def OutOrderSaid : Prop := outOrderRow.holds Try.pinned (OpenSpec.ofChange outOrderSpec)

/-- ITS FALSE NEIGHBOUR: 'it returns false'. Refute it at one input. -/
def outOrderWrong : ChangeSpec := { name := "outOrder", fn := fun _ => fun
  | [d1, d2] => { results := [.lit (.bool false)], args := [d1, d2] }
  | _ => none }
def OutOrderWrongFalsely : Prop := outOrderRow.holds Try.pinned (OpenSpec.ofChange outOrderWrong)

/-- 'jobberlaw22.OutRoom': WHATEVER THE INPUT: true; the input reads as it did. -/
def outRoomSpec : ChangeSpec := { name := "outRoom", fn := fun _ => fun
  | [d] => { results := [.lit (.bool true)], args := [d] }
  | _ => none }
def outRoomRow : OpenClaim := { program := "ytgpikookffajdaa", sum := "d86d7818993fff6435d2d7099e4a213df4cbb2431e75c167cf6c0ef0250860ef", func := "jobber/jobberlaw22.OutRoom", spec := "outRoom", apart := false }
def OutRoomSaid : Prop := outRoomRow.holds Try.pinned (OpenSpec.ofChange outRoomSpec)

/-- ITS FALSE NEIGHBOUR: 'it returns false'. Refute it at one input. -/
def outRoomWrong : ChangeSpec := { name := "outRoom", fn := fun _ => fun
  | [d] => { results := [.lit (.bool false)], args := [d] }
  | _ => none }
def OutRoomWrongFalsely : Prop := outRoomRow.holds Try.pinned (OpenSpec.ofChange outRoomWrong)

/- THE SECOND FORM. 'bulk': how many values and letters a reading holds, each counted each time it is reached (what is shared counts as often as it is met; a slice's spare places count too). A statement '..UptoSaid' is the law's where the arguments, and the package variables that the reading takes, are together of bulk at most 1048576: NARROWER than '..Said'. Prove '..Said' where nothing that the law and all that it calls make is longer than what came in: it says more and counts as full. Else prove '..UptoSaid'. A law counts once. -/
mutual
def uptoBulk {H : Type} : DataW H → Nat
  | .lit (.string bytes) => bytes.length + 1
  | .lit _ => 1
  | .nil => 1
  | .ptr d => uptoBulk d + 1
  | .slice elems spare => uptoBulkAll elems + uptoBulkAll spare + 1
  | .agg parts => uptoBulkAll parts + 1
  | .iface _ d => uptoBulk d + 1
  | .map entries => uptoBulkEntries entries + 1
  | .held _ => 1
def uptoBulkAll {H : Type} : List (DataW H) → Nat
  | [] => 0
  | d :: r => uptoBulk d + uptoBulkAll r
def uptoBulkEntries {H : Type} : List (Lit × DataW H) → Nat
  | [] => 0
  | x :: r => uptoBulkEntry x + uptoBulkEntries r
def uptoBulkEntry {H : Type} : Lit × DataW H → Nat
  | (.string bytes, d) => bytes.length + uptoBulk d + 1
  | (_, d) => uptoBulk d + 1
 end
def uptoSmall : (H : Type) → List (DataW H) → Bool := fun _ ds => decide (uptoBulkAll ds ≤ 1048576)
def OpenSpec.upto (s : _root_.Go.ChangeSpec) : _root_.Go.OpenSpec := { _root_.Go.OpenSpec.ofChange s with cond := some uptoSmall }

/-- 'jobberlaw22.OutRuns', WHERE WHAT IT READS IS OF BULK AT MOST 1048576: true; the input reads as it did. -/
def outRunsUptoRow : OpenClaim := { program := "ytgpikookffajdaa", sum := "d86d7818993fff6435d2d7099e4a213df4cbb2431e75c167cf6c0ef0250860ef", func := "jobber/jobberlaw22.OutRuns", spec := "outRuns", apart := false, narrowed := true }
def OutRunsUptoSaid : Prop := outRunsUptoRow.holds Try.pinned (OpenSpec.upto outRunsSpec)

/-- 'jobberlaw22.OutTwins', WHERE WHAT IT READS IS OF BULK AT MOST 1048576: true; the input reads as it did. -/
def outTwinsUptoRow : OpenClaim := { program := "ytgpikookffajdaa", sum := "d86d7818993fff6435d2d7099e4a213df4cbb2431e75c167cf6c0ef0250860ef", func := "jobber/jobberlaw22.OutTwins", spec := "outTwins", apart := false, narrowed := true }
def OutTwinsUptoSaid : Prop := outTwinsUptoRow.holds Try.pinned (OpenSpec.upto outTwinsSpec)

/-- 'jobberlaw22.OutPlays', WHERE WHAT IT READS IS OF BULK AT MOST 1048576: true; the input reads as it did. -/
def outPlaysUptoRow : OpenClaim := { program := "ytgpikookffajdaa", sum := "d86d7818993fff6435d2d7099e4a213df4cbb2431e75c167cf6c0ef0250860ef", func := "jobber/jobberlaw22.OutPlays", spec := "outPlays", apart := false, narrowed := true }
def OutPlaysUptoSaid : Prop := outPlaysUptoRow.holds Try.pinned (OpenSpec.upto outPlaysSpec)

/-- 'jobberlaw22.OutOrder', WHERE WHAT IT READS IS OF BULK AT MOST 1048576: true; the input reads as it did. -/
def outOrderUptoRow : OpenClaim := { program := "ytgpikookffajdaa", sum := "d86d7818993fff6435d2d7099e4a213df4cbb2431e75c167cf6c0ef0250860ef", func := "jobber/jobberlaw22.OutOrder", spec := "outOrder", apart := false, narrowed := true }
def OutOrderUptoSaid : Prop := outOrderUptoRow.holds Try.pinned (OpenSpec.upto outOrderSpec)

/-- 'jobberlaw22.OutRoom', WHERE WHAT IT READS IS OF BULK AT MOST 1048576: true; the input reads as it did. -/
def outRoomUptoRow : OpenClaim := { program := "ytgpikookffajdaa", sum := "d86d7818993fff6435d2d7099e4a213df4cbb2431e75c167cf6c0ef0250860ef", func := "jobber/jobberlaw22.OutRoom", spec := "outRoom", apart := false, narrowed := true }
def OutRoomUptoSaid : Prop := outRoomUptoRow.holds Try.pinned (OpenSpec.upto outRoomSpec)

end Rows
end Go.Proofs.Ytgpikookffajdaa
