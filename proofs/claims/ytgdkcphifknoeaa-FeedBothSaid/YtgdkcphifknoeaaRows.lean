/-
  No cell of these rows narrows 'for every input' (looked for: loops, veiled, ifaces, maps, wideKeys, modest, calm, conditions, laid).
  DERIVED. THE GIVEN ROWS OF THIS SEAT. 5 by the template 'for every input the law returns true; each argument reads behind the call as it read before'; 0 by the template 'total and deterministic' (their statements: YtgdkcphifknoeaaTotals.lean).
  GIVEN WITH THE SEED: the statements are not yours to turn. If you find one false, say at which input.
  Laid BY PROGRAM, IN A SANDBOX (cutbox-rows.mjs): the forced cells as the released guide's own fill.sh prints them over the translation b3cd1f8a1afbe57f… (all of the seat's roots in one cut). By AI agents, Wed Nov 11 2026. No macro, syntax, notation, axiom, sorry.
-/
import Derived.Test.YtgdkcphifknoeaaChecked
import GoSem.Claim
import GoSem.ClaimJoined
import GoSem.ClaimMapViews
import Derived.JoinedTies
import Derived.KernelRfl
namespace Go.Proofs.Ytgdkcphifknoeaa
/- THE CELL 'sum', in the pinned program and in every row, IS THE sha256 OF THE DUMP (.gsa) THAT YtgdkcphifknoeaaProg.lean LOADS. Nothing in Lean hashes anything: it is a label: what it is worth is what the hold of that sum in a sandbox is worth. -/
noncomputable def Try.pinned : Pinned := { name := "ytgdkcphifknoeaa", sum := "b3cd1f8a1afbe57f63a640b5b2bd130f00c184205180ee18a37781517e2ac74e", checked := Try.checked }
namespace Rows
def none {H : Type} : Left H := { results := [], args := [] }

/-- 'jobberlaw23.FeedRuns': WHATEVER THE INPUT: true; the input reads as it did. -/
def feedRunsSpec : ChangeSpec := { name := "feedRuns", fn := fun _ => fun
  | [] => { results := [.lit (.bool true)], args := [] }
  | _ => none }
def feedRunsRow : OpenClaim := { program := "ytgdkcphifknoeaa", sum := "b3cd1f8a1afbe57f63a640b5b2bd130f00c184205180ee18a37781517e2ac74e", func := "jobber/jobberlaw23.FeedRuns", spec := "feedRuns", apart := false }
def FeedRunsSaid : Prop := feedRunsRow.holds Try.pinned (OpenSpec.ofChange feedRunsSpec)

/-- ITS FALSE NEIGHBOUR: 'it returns false'. Refute it at one input. -/
def feedRunsWrong : ChangeSpec := { name := "feedRuns", fn := fun _ => fun
  | [] => { results := [.lit (.bool false)], args := [] }
  | _ => none }
def FeedRunsWrongFalsely : Prop := feedRunsRow.holds Try.pinned (OpenSpec.ofChange feedRunsWrong)

/-- 'jobberlaw23.FeedTells': WHATEVER THE INPUT: true; the input reads as it did. -/
def feedTellsSpec : ChangeSpec := { name := "feedTells", fn := fun _ => fun
  | [d1, d2] => { results := [.lit (.bool true)], args := [d1, d2] }
  | _ => none }
def feedTellsRow : OpenClaim := { program := "ytgdkcphifknoeaa", sum := "b3cd1f8a1afbe57f63a640b5b2bd130f00c184205180ee18a37781517e2ac74e", func := "jobber/jobberlaw23.FeedTells", spec := "feedTells", apart := false }
def FeedTellsSaid : Prop := feedTellsRow.holds Try.pinned (OpenSpec.ofChange feedTellsSpec)

/-- ITS FALSE NEIGHBOUR: 'it returns false'. Refute it at one input. -/
def feedTellsWrong : ChangeSpec := { name := "feedTells", fn := fun _ => fun
  | [d1, d2] => { results := [.lit (.bool false)], args := [d1, d2] }
  | _ => none }
def FeedTellsWrongFalsely : Prop := feedTellsRow.holds Try.pinned (OpenSpec.ofChange feedTellsWrong)

/-- 'jobberlaw23.FeedBlind': WHATEVER THE INPUT: true; the input reads as it did. -/
def feedBlindSpec : ChangeSpec := { name := "feedBlind", fn := fun _ => fun
  | [d1, d2, d3, d4] => { results := [.lit (.bool true)], args := [d1, d2, d3, d4] }
  | _ => none }
def feedBlindRow : OpenClaim := { program := "ytgdkcphifknoeaa", sum := "b3cd1f8a1afbe57f63a640b5b2bd130f00c184205180ee18a37781517e2ac74e", func := "jobber/jobberlaw23.FeedBlind", spec := "feedBlind", apart := false }
def FeedBlindSaid : Prop := feedBlindRow.holds Try.pinned (OpenSpec.ofChange feedBlindSpec)

/-- ITS FALSE NEIGHBOUR: 'it returns false'. Refute it at one input. -/
def feedBlindWrong : ChangeSpec := { name := "feedBlind", fn := fun _ => fun
  | [d1, d2, d3, d4] => { results := [.lit (.bool false)], args := [d1, d2, d3, d4] }
  | _ => none }
def FeedBlindWrongFalsely : Prop := feedBlindRow.holds Try.pinned (OpenSpec.ofChange feedBlindWrong)

/-- 'jobberlaw23.FeedBoth': WHATEVER THE INPUT: true; the input reads as it did. -/
def feedBothSpec : ChangeSpec := { name := "feedBoth", fn := fun _ => fun
  | [d1, d2, d3] => { results := [.lit (.bool true)], args := [d1, d2, d3] }
  | _ => none }
def feedBothRow : OpenClaim := { program := "ytgdkcphifknoeaa", sum := "b3cd1f8a1afbe57f63a640b5b2bd130f00c184205180ee18a37781517e2ac74e", func := "jobber/jobberlaw23.FeedBoth", spec := "feedBoth", apart := false }
def FeedBothSaid : Prop := feedBothRow.holds Try.pinned (OpenSpec.ofChange feedBothSpec)

/-- ITS FALSE NEIGHBOUR: 'it returns false'. Refute it at one input. -/
def feedBothWrong : ChangeSpec := { name := "feedBoth", fn := fun _ => fun
  | [d1, d2, d3] => { results := [.lit (.bool false)], args := [d1, d2, d3] }
  | _ => none }
def FeedBothWrongFalsely : Prop := feedBothRow.holds Try.pinned (OpenSpec.ofChange feedBothWrong)

/-- 'jobberlaw23.FeedGone': WHATEVER THE INPUT: true; the input reads as it did. -/
def feedGoneSpec : ChangeSpec := { name := "feedGone", fn := fun _ => fun
  | [d1, d2, d3] => { results := [.lit (.bool true)], args := [d1, d2, d3] }
  | _ => none }
def feedGoneRow : OpenClaim := { program := "ytgdkcphifknoeaa", sum := "b3cd1f8a1afbe57f63a640b5b2bd130f00c184205180ee18a37781517e2ac74e", func := "jobber/jobberlaw23.FeedGone", spec := "feedGone", apart := false }
def FeedGoneSaid : Prop := feedGoneRow.holds Try.pinned (OpenSpec.ofChange feedGoneSpec)

/-- ITS FALSE NEIGHBOUR: 'it returns false'. Refute it at one input. -/
def feedGoneWrong : ChangeSpec := { name := "feedGone", fn := fun _ => fun
  | [d1, d2, d3] => { results := [.lit (.bool false)], args := [d1, d2, d3] }
  | _ => none }
def FeedGoneWrongFalsely : Prop := feedGoneRow.holds Try.pinned (OpenSpec.ofChange feedGoneWrong)

/- THE SECOND FORM. 'bulk': how many values and letters a reading holds, each counted each time it is reached (what is shared counts as often as it is met; a slice's spare places count too). A statement '..UptoSaid' is the law's where the arguments, and the package variables that the reading takes, are together of bulk at most 1048576: NARROWER than '..Said'. Prove '..Said' where nothing that the law and all that it calls make is longer than what came in: it says more and counts as full. Else prove '..UptoSaid'. A law counts once. -/
mutual
def uptoBulk {H : Type} : DataW H → Nat
  | .lit (.string bytes) => bytes.length + 1
  | .lit _ => 1
  | .nil => 1
  | .ptr d => uptoBulk d + 1
  | .slice elems spare => uptoBulkAll elems + uptoBulkAll spare + 1
  | .agg parts => uptoBulkAll parts + 1
  | .iface _ d => uptoBulk d + 1
  | .map entries => uptoBulkEntries entries + 1
  | .held _ => 1
def uptoBulkAll {H : Type} : List (DataW H) → Nat
  | [] => 0
  | d :: r => uptoBulk d + uptoBulkAll r
def uptoBulkEntries {H : Type} : List (Lit × DataW H) → Nat
  | [] => 0
  | x :: r => uptoBulkEntry x + uptoBulkEntries r
def uptoBulkEntry {H : Type} : Lit × DataW H → Nat
  | (.string bytes, d) => bytes.length + uptoBulk d + 1
  | (_, d) => uptoBulk d + 1
 end
def uptoSmall : (H : Type) → List (DataW H) → Bool := fun _ ds => decide (uptoBulkAll ds ≤ 1048576)
def OpenSpec.upto (s : _root_.Go.ChangeSpec) : _root_.Go.OpenSpec := { _root_.Go.OpenSpec.ofChange s with cond := some uptoSmall }

/-- 'jobberlaw23.FeedRuns', WHERE WHAT IT READS IS OF BULK AT MOST 1048576: true; the input reads as it did. -/
def feedRunsUptoRow : OpenClaim := { program := "ytgdkcphifknoeaa", sum := "b3cd1f8a1afbe57f63a640b5b2bd130f00c184205180ee18a37781517e2ac74e", func := "jobber/jobberlaw23.FeedRuns", spec := "feedRuns", apart := false, narrowed := true }
def FeedRunsUptoSaid : Prop := feedRunsUptoRow.holds Try.pinned (OpenSpec.upto feedRunsSpec)

/-- 'jobberlaw23.FeedTells', WHERE WHAT IT READS IS OF BULK AT MOST 1048576: true; the input reads as it did. -/
def feedTellsUptoRow : OpenClaim := { program := "ytgdkcphifknoeaa", sum := "b3cd1f8a1afbe57f63a640b5b2bd130f00c184205180ee18a37781517e2ac74e", func := "jobber/jobberlaw23.FeedTells", spec := "feedTells", apart := false, narrowed := true }
def FeedTellsUptoSaid : Prop := feedTellsUptoRow.holds Try.pinned (OpenSpec.upto feedTellsSpec)

/-- 'jobberlaw23.FeedBlind', WHERE WHAT IT READS IS OF BULK AT MOST 1048576: true; the input reads as it did. -/
def feedBlindUptoRow : OpenClaim := { program := "ytgdkcphifknoeaa", sum := "b3cd1f8a1afbe57f63a640b5b2bd130f00c184205180ee18a37781517e2ac74e", func := "jobber/jobberlaw23.FeedBlind", spec := "feedBlind", apart := false, narrowed := true }
def FeedBlindUptoSaid : Prop := feedBlindUptoRow.holds Try.pinned (OpenSpec.upto feedBlindSpec)

/-- 'jobberlaw23.FeedBoth', WHERE WHAT IT READS IS OF BULK AT MOST 1048576: true; the input reads as it did. -/
def feedBothUptoRow : OpenClaim := { program := "ytgdkcphifknoeaa", sum := "b3cd1f8a1afbe57f63a640b5b2bd130f00c184205180ee18a37781517e2ac74e", func := "jobber/jobberlaw23.FeedBoth", spec := "feedBoth", apart := false, narrowed := true }
def FeedBothUptoSaid : Prop := feedBothUptoRow.holds Try.pinned (OpenSpec.upto feedBothSpec)

/-- 'jobberlaw23.FeedGone', WHERE WHAT IT READS IS OF BULK AT MOST 1048576: true; the input reads as it did. -/
def feedGoneUptoRow : OpenClaim := { program := "ytgdkcphifknoeaa", sum := "b3cd1f8a1afbe57f63a640b5b2bd130f00c184205180ee18a37781517e2ac74e", func := "jobber/jobberlaw23.FeedGone", spec := "feedGone", apart := false, narrowed := true }
def FeedGoneUptoSaid : Prop := feedGoneUptoRow.holds Try.pinned (OpenSpec.upto feedGoneSpec)

end Rows
end Go.Proofs.Ytgdkcphifknoeaa
