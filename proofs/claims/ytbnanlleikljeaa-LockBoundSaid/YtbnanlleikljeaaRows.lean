/-
  No cell of these rows narrows 'for every input' (looked for: loops, veiled, ifaces, maps, wideKeys, modest, calm, conditions, laid).
  DERIVED. THE GIVEN ROWS OF THIS SEAT. 6 by the template 'for every input the law returns true; each argument reads behind the call as it read before'; 0 by the template 'total and deterministic' (their statements: YtbnanlleikljeaaTotals.lean).
  GIVEN WITH THE SEED: the statements are not yours to turn. If you find one false, say at which input.
  Laid BY PROGRAM, IN A SANDBOX (cutbox-rows.mjs): the forced cells as the released guide's own fill.sh prints them over the translation 51e2dec893a69259… (all of the seat's roots in one cut). By AI agents, Wed Nov 11 2026. No macro, syntax, notation, axiom, sorry.
-/
import Derived.Test.YtbnanlleikljeaaChecked
import GoSem.Claim
import GoSem.ClaimJoined
import GoSem.ClaimMapViews
import Derived.JoinedTies
import Derived.KernelRfl
namespace Go.Proofs.Ytbnanlleikljeaa
/- THE CELL 'sum', in the pinned program and in every row, IS THE sha256 OF THE DUMP (.gsa) THAT YtbnanlleikljeaaProg.lean LOADS. Nothing in Lean hashes anything: it is a label: what it is worth is what the hold of that sum in a sandbox is worth. -/
noncomputable def Try.pinned : Pinned := { name := "ytbnanlleikljeaa", sum := "51e2dec893a692598006581c35d294413468f2d9f6b76f35a82e06dd6689f7f4", checked := Try.checked }
namespace Rows
def none {H : Type} : Left H := { results := [], args := [] }

/-- 'jobberlaw18.LockRuns': WHATEVER THE INPUT: true; the input reads as it did. -/
def lockRunsSpec : ChangeSpec := { name := "lockRuns", fn := fun _ => fun
  | [] => { results := [.lit (.bool true)], args := [] }
  | _ => none }
def lockRunsRow : OpenClaim := { program := "ytbnanlleikljeaa", sum := "51e2dec893a692598006581c35d294413468f2d9f6b76f35a82e06dd6689f7f4", func := "jobber/jobberlaw18.LockRuns", spec := "lockRuns", apart := false }
def LockRunsSaid : Prop := lockRunsRow.holds Try.pinned (OpenSpec.ofChange lockRunsSpec)

/-- ITS FALSE NEIGHBOUR: 'it returns false'. Refute it at one input. -/
def lockRunsWrong : ChangeSpec := { name := "lockRuns", fn := fun _ => fun
  | [] => { results := [.lit (.bool false)], args := [] }
  | _ => none }
def LockRunsWrongFalsely : Prop := lockRunsRow.holds Try.pinned (OpenSpec.ofChange lockRunsWrong)

/-- 'jobberlaw18.LockBound': WHATEVER THE INPUT: true; the input reads as it did. -/
def lockBoundSpec : ChangeSpec := { name := "lockBound", fn := fun _ => fun
  | [d1, d2, d3] => { results := [.lit (.bool true)], args := [d1, d2, d3] }
  | _ => none }
def lockBoundRow : OpenClaim := { program := "ytbnanlleikljeaa", sum := "51e2dec893a692598006581c35d294413468f2d9f6b76f35a82e06dd6689f7f4", func := "jobber/jobberlaw18.LockBound", spec := "lockBound", apart := false }
def LockBoundSaid : Prop := lockBoundRow.holds Try.pinned (OpenSpec.ofChange lockBoundSpec)

/-- ITS FALSE NEIGHBOUR: 'it returns false'. Refute it at one input. -/
def lockBoundWrong : ChangeSpec := { name := "lockBound", fn := fun _ => fun
  | [d1, d2, d3] => { results := [.lit (.bool false)], args := [d1, d2, d3] }
  | _ => none }
def LockBoundWrongFalsely : Prop := lockBoundRow.holds Try.pinned (OpenSpec.ofChange lockBoundWrong)

/-- 'jobberlaw18.LockOnce': WHATEVER THE INPUT: true; the input reads as it did. -/
def lockOnceSpec : ChangeSpec := { name := "lockOnce", fn := fun _ => fun
  | [d1, d2] => { results := [.lit (.bool true)], args := [d1, d2] }
  | _ => none }
def lockOnceRow : OpenClaim := { program := "ytbnanlleikljeaa", sum := "51e2dec893a692598006581c35d294413468f2d9f6b76f35a82e06dd6689f7f4", func := "jobber/jobberlaw18.LockOnce", spec := "lockOnce", apart := false }
def LockOnceSaid : Prop := lockOnceRow.holds Try.pinned (OpenSpec.ofChange lockOnceSpec)

/-- ITS FALSE NEIGHBOUR: 'it returns false'. Refute it at one input. -/
def lockOnceWrong : ChangeSpec := { name := "lockOnce", fn := fun _ => fun
  | [d1, d2] => { results := [.lit (.bool false)], args := [d1, d2] }
  | _ => none }
def LockOnceWrongFalsely : Prop := lockOnceRow.holds Try.pinned (OpenSpec.ofChange lockOnceWrong)

/-- 'jobberlaw18.LockPlays': WHATEVER THE INPUT: true; the input reads as it did. -/
def lockPlaysSpec : ChangeSpec := { name := "lockPlays", fn := fun _ => fun
  | [d1, d2, d3] => { results := [.lit (.bool true)], args := [d1, d2, d3] }
  | _ => none }
def lockPlaysRow : OpenClaim := { program := "ytbnanlleikljeaa", sum := "51e2dec893a692598006581c35d294413468f2d9f6b76f35a82e06dd6689f7f4", func := "jobber/jobberlaw18.LockPlays", spec := "lockPlays", apart := false }
def LockPlaysSaid : Prop := lockPlaysRow.holds Try.pinned (OpenSpec.ofChange lockPlaysSpec)

/-- ITS FALSE NEIGHBOUR: 'it returns false'. Refute it at one input. -/
def lockPlaysWrong : ChangeSpec := { name := "lockPlays", fn := fun _ => fun
  | [d1, d2, d3] => { results := [.lit (.bool false)], args := [d1, d2, d3] }
  | _ => none }
def LockPlaysWrongFalsely : Prop := lockPlaysRow.holds Try.pinned (OpenSpec.ofChange lockPlaysWrong)

/-- 'jobberlaw18.LockHolds': WHATEVER THE INPUT: true; the input reads as it did. -/
def lockHoldsSpec : ChangeSpec := { name := "lockHolds", fn := fun _ => fun
  | [d1, d2, d3, d4] => { results := [.lit (.bool true)], args := [d1, d2, d3, d4] }
  | _ => none }
def lockHoldsRow : OpenClaim := { program := "ytbnanlleikljeaa", sum := "51e2dec893a692598006581c35d294413468f2d9f6b76f35a82e06dd6689f7f4", func := "jobber/jobberlaw18.LockHolds", spec := "lockHolds", apart := false }
def LockHoldsSaid : Prop := lockHoldsRow.holds Try.pinned (OpenSpec.ofChange lockHoldsSpec)

/-- ITS FALSE NEIGHBOUR: 'it returns false'. Refute it at one input. -/
def lockHoldsWrong : ChangeSpec := { name := "lockHolds", fn := fun _ => fun
  | [d1, d2, d3, d4] => { results := [.lit (.bool false)], args := [d1, d2, d3, d4] }
  | _ => none }
def LockHoldsWrongFalsely : Prop := lockHoldsRow.holds Try.pinned (OpenSpec.ofChange lockHoldsWrong)

/-- 'jobberlaw18.LockTwins': WHATEVER THE INPUT: true; the input reads as it did. -/
def lockTwinsSpec : ChangeSpec := { name := "lockTwins", fn := fun _ => fun
  | [d1, d2, d3] => { results := [.lit (.bool true)], args := [d1, d2, d3] }
  | _ => none }
def lockTwinsRow : OpenClaim := { program := "ytbnanlleikljeaa", sum := "51e2dec893a692598006581c35d294413468f2d9f6b76f35a82e06dd6689f7f4", func := "jobber/jobberlaw18.LockTwins", spec := "lockTwins", apart := false }
def LockTwinsSaid : Prop := lockTwinsRow.holds Try.pinned (OpenSpec.ofChange lockTwinsSpec)

/-- ITS FALSE NEIGHBOUR: 'it returns false'. Refute it at one input. -/
def lockTwinsWrong : ChangeSpec := { name := "lockTwins", fn := fun _ => fun
  | [d1, d2, d3] => { results := [.lit (.bool false)], args := [d1, d2, d3] }
  | _ => none }
def LockTwinsWrongFalsely : Prop := lockTwinsRow.holds Try.pinned (OpenSpec.ofChange lockTwinsWrong)

/- THE SECOND FORM. 'bulk': how many values and letters a reading holds, each counted each time it is reached (what is shared counts as often as it is met; a slice's spare places count too). A statement '..UptoSaid' is the law's where the arguments, and the package variables that the reading takes, are together of bulk at most 1048576: NARROWER than '..Said'. Prove '..Said' where nothing that the law and all that it calls make is longer than what came in: it says more and counts as full. Else prove '..UptoSaid'. A law counts once. -/
mutual
def uptoBulk {H : Type} : DataW H → Nat
  | .lit (.string bytes) => bytes.length + 1
  | .lit _ => 1
  | .nil => 1
  | .ptr d => uptoBulk d + 1
  | .slice elems spare => uptoBulkAll elems + uptoBulkAll spare + 1
  | .agg parts => uptoBulkAll parts + 1
  | .iface _ d => uptoBulk d + 1
  | .map entries => uptoBulkEntries entries + 1
  | .held _ => 1
def uptoBulkAll {H : Type} : List (DataW H) → Nat
  | [] => 0
  | d :: r => uptoBulk d + uptoBulkAll r
def uptoBulkEntries {H : Type} : List (Lit × DataW H) → Nat
  | [] => 0
  | x :: r => uptoBulkEntry x + uptoBulkEntries r
def uptoBulkEntry {H : Type} : Lit × DataW H → Nat
  | (.string bytes, d) => bytes.length + uptoBulk d + 1
  | (_, d) => uptoBulk d + 1
 end
def uptoSmall : (H : Type) → List (DataW H) → Bool := fun _ ds => decide (uptoBulkAll ds ≤ 1048576)
def OpenSpec.upto (s : _root_.Go.ChangeSpec) : _root_.Go.OpenSpec := { _root_.Go.OpenSpec.ofChange s with cond := some uptoSmall }

/-- 'jobberlaw18.LockRuns', WHERE WHAT IT READS IS OF BULK AT MOST 1048576: true; the input reads as it did. -/
def lockRunsUptoRow : OpenClaim := { program := "ytbnanlleikljeaa", sum := "51e2dec893a692598006581c35d294413468f2d9f6b76f35a82e06dd6689f7f4", func := "jobber/jobberlaw18.LockRuns", spec := "lockRuns", apart := false, narrowed := true }
def LockRunsUptoSaid : Prop := lockRunsUptoRow.holds Try.pinned (OpenSpec.upto lockRunsSpec)

/-- 'jobberlaw18.LockBound', WHERE WHAT IT READS IS OF BULK AT MOST 1048576: true; the input reads as it did. -/
def lockBoundUptoRow : OpenClaim := { program := "ytbnanlleikljeaa", sum := "51e2dec893a692598006581c35d294413468f2d9f6b76f35a82e06dd6689f7f4", func := "jobber/jobberlaw18.LockBound", spec := "lockBound", apart := false, narrowed := true }
def LockBoundUptoSaid : Prop := lockBoundUptoRow.holds Try.pinned (OpenSpec.upto lockBoundSpec)

/-- 'jobberlaw18.LockOnce', WHERE WHAT IT READS IS OF BULK AT MOST 1048576: true; the input reads as it did. -/
def lockOnceUptoRow : OpenClaim := { program := "ytbnanlleikljeaa", sum := "51e2dec893a692598006581c35d294413468f2d9f6b76f35a82e06dd6689f7f4", func := "jobber/jobberlaw18.LockOnce", spec := "lockOnce", apart := false, narrowed := true }
def LockOnceUptoSaid : Prop := lockOnceUptoRow.holds Try.pinned (OpenSpec.upto lockOnceSpec)

/-- 'jobberlaw18.LockPlays', WHERE WHAT IT READS IS OF BULK AT MOST 1048576: true; the input reads as it did. -/
def lockPlaysUptoRow : OpenClaim := { program := "ytbnanlleikljeaa", sum := "51e2dec893a692598006581c35d294413468f2d9f6b76f35a82e06dd6689f7f4", func := "jobber/jobberlaw18.LockPlays", spec := "lockPlays", apart := false, narrowed := true }
def LockPlaysUptoSaid : Prop := lockPlaysUptoRow.holds Try.pinned (OpenSpec.upto lockPlaysSpec)

/-- 'jobberlaw18.LockHolds', WHERE WHAT IT READS IS OF BULK AT MOST 1048576: true; the input reads as it did. -/
def lockHoldsUptoRow : OpenClaim := { program := "ytbnanlleikljeaa", sum := "51e2dec893a692598006581c35d294413468f2d9f6b76f35a82e06dd6689f7f4", func := "jobber/jobberlaw18.LockHolds", spec := "lockHolds", apart := false, narrowed := true }
def LockHoldsUptoSaid : Prop := lockHoldsUptoRow.holds Try.pinned (OpenSpec.upto lockHoldsSpec)

/-- 'jobberlaw18.LockTwins', WHERE WHAT IT READS IS OF BULK AT MOST 1048576: true; the input reads as it did. -/
def lockTwinsUptoRow : OpenClaim := { program := "ytbnanlleikljeaa", sum := "51e2dec893a692598006581c35d294413468f2d9f6b76f35a82e06dd6689f7f4", func := "jobber/jobberlaw18.LockTwins", spec := "lockTwins", apart := false, narrowed := true }
def LockTwinsUptoSaid : Prop := lockTwinsUptoRow.holds Try.pinned (OpenSpec.upto lockTwinsSpec)

end Rows
end Go.Proofs.Ytbnanlleikljeaa
