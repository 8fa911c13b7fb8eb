/-
  No cell of these rows narrows 'for every input' (looked for: loops, veiled, ifaces, maps, wideKeys, modest, calm, conditions, laid).
  DERIVED. THE GIVEN ROWS OF THIS SEAT. 5 by the template 'for every input the law returns true; each argument reads behind the call as it read before'; 0 by the template 'total and deterministic' (their statements: YtgeoonfjoolklaaTotals.lean).
  GIVEN WITH THE SEED: the statements are not yours to turn. If you find one false, say at which input.
  Laid BY PROGRAM, IN A SANDBOX (cutbox-rows.mjs): the forced cells as the released guide's own fill.sh prints them over the translation ac2c992be070ce13… (all of the seat's roots in one cut). By AI agents, Wed Nov 11 2026. No macro, syntax, notation, axiom, sorry.
-/
import Derived.Test.YtgeoonfjoolklaaChecked
import GoSem.Claim
import GoSem.ClaimJoined
import GoSem.ClaimMapViews
import Derived.JoinedTies
import Derived.KernelRfl
namespace Go.Proofs.Ytgeoonfjoolklaa
/- THE CELL 'sum', in the pinned program and in every row, IS THE sha256 OF THE DUMP (.gsa) THAT YtgeoonfjoolklaaProg.lean LOADS. Nothing in Lean hashes anything: it is a label: what it is worth is what the hold of that sum in a sandbox is worth. -/
noncomputable def Try.pinned : Pinned := { name := "ytgeoonfjoolklaa", sum := "ac2c992be070ce13e1f0f408d982972c4540e78ece8199a212324976bc3eb27d", checked := Try.checked }
namespace Rows
def none {H : Type} : Left H := { results := [], args := [] }

/-- 'jobberlaw17.BucketRuns': WHATEVER THE INPUT: true; the input reads as it did. -/
def bucketRunsSpec : ChangeSpec := { name := "bucketRuns", fn := fun _ => fun
  | [] => { results := [.lit (.bool true)], args := [] }
  | _ => none }
def bucketRunsRow : OpenClaim := { program := "ytgeoonfjoolklaa", sum := "ac2c992be070ce13e1f0f408d982972c4540e78ece8199a212324976bc3eb27d", func := "jobber/jobberlaw17.BucketRuns", spec := "bucketRuns", apart := false }
def BucketRunsSaid : Prop := bucketRunsRow.holds Try.pinned (OpenSpec.ofChange bucketRunsSpec)

/-- ITS FALSE NEIGHBOUR: 'it returns false'. Refute it at one input. -/
def bucketRunsWrong : ChangeSpec := { name := "bucketRuns", fn := fun _ => fun
  | [] => { results := [.lit (.bool false)], args := [] }
  | _ => none }
def BucketRunsWrongFalsely : Prop := bucketRunsRow.holds Try.pinned (OpenSpec.ofChange bucketRunsWrong)

/-- 'jobberlaw17.BucketFair': WHATEVER THE INPUT: true; the input reads as it did. -/
def bucketFairSpec : ChangeSpec := { name := "bucketFair", fn := fun _ => fun
  | [d1, d2, d3] => { results := [.lit (.bool true)], args := [d1, d2, d3] }
  | _ => none }
def bucketFairRow : OpenClaim := { program := "ytgeoonfjoolklaa", sum := "ac2c992be070ce13e1f0f408d982972c4540e78ece8199a212324976bc3eb27d", func := "jobber/jobberlaw17.BucketFair", spec := "bucketFair", apart := false }
def BucketFairSaid : Prop := bucketFairRow.holds Try.pinned (OpenSpec.ofChange bucketFairSpec)

/-- ITS FALSE NEIGHBOUR: 'it returns false'. Refute it at one input. -/
def bucketFairWrong : ChangeSpec := { name := "bucketFair", fn := fun _ => fun
  | [d1, d2, d3] => { results := [.lit (.bool false)], args := [d1, d2, d3] }
  | _ => none }
def BucketFairWrongFalsely : Prop := bucketFairRow.holds Try.pinned (OpenSpec.ofChange bucketFairWrong)

/-- 'jobberlaw17.BucketPlays': WHATEVER THE INPUT: true; the input reads as it did. -/
def bucketPlaysSpec : ChangeSpec := { name := "bucketPlays", fn := fun _ => fun
  | [d1, d2, d3] => { results := [.lit (.bool true)], args := [d1, d2, d3] }
  | _ => none }
def bucketPlaysRow : OpenClaim := { program := "ytgeoonfjoolklaa", sum := "ac2c992be070ce13e1f0f408d982972c4540e78ece8199a212324976bc3eb27d", func := "jobber/jobberlaw17.BucketPlays", spec := "bucketPlays", apart := false }
def BucketPlaysSaid : Prop := bucketPlaysRow.holds Try.pinned (OpenSpec.ofChange bucketPlaysSpec)

/-- ITS FALSE NEIGHBOUR: 'it returns false'. Refute it at one input. -/
def bucketPlaysWrong : ChangeSpec := { name := "bucketPlays", fn := fun _ => fun
  | [d1, d2, d3] => { results := [.lit (.bool false)], args := [d1, d2, d3] }
  | _ => none }
def BucketPlaysWrongFalsely : Prop := bucketPlaysRow.holds Try.pinned (OpenSpec.ofChange bucketPlaysWrong)

/-- 'jobberlaw17.BucketBound': WHATEVER THE INPUT: true; the input reads as it did. -/
def bucketBoundSpec : ChangeSpec := { name := "bucketBound", fn := fun _ => fun
  | [d1, d2, d3] => { results := [.lit (.bool true)], args := [d1, d2, d3] }
  | _ => none }
def bucketBoundRow : OpenClaim := { program := "ytgeoonfjoolklaa", sum := "ac2c992be070ce13e1f0f408d982972c4540e78ece8199a212324976bc3eb27d", func := "jobber/jobberlaw17.BucketBound", spec := "bucketBound", apart := false }
def BucketBoundSaid : Prop := bucketBoundRow.holds Try.pinned (OpenSpec.ofChange bucketBoundSpec)

/-- ITS FALSE NEIGHBOUR: 'it returns false'. Refute it at one input. -/
def bucketBoundWrong : ChangeSpec := { name := "bucketBound", fn := fun _ => fun
  | [d1, d2, d3] => { results := [.lit (.bool false)], args := [d1, d2, d3] }
  | _ => none }
def BucketBoundWrongFalsely : Prop := bucketBoundRow.holds Try.pinned (OpenSpec.ofChange bucketBoundWrong)

/-- 'jobberlaw17.BucketLeft': WHATEVER THE INPUT: true; the input reads as it did. -/
def bucketLeftSpec : ChangeSpec := { name := "bucketLeft", fn := fun _ => fun
  | [d1, d2, d3] => { results := [.lit (.bool true)], args := [d1, d2, d3] }
  | _ => none }
def bucketLeftRow : OpenClaim := { program := "ytgeoonfjoolklaa", sum := "ac2c992be070ce13e1f0f408d982972c4540e78ece8199a212324976bc3eb27d", func := "jobber/jobberlaw17.BucketLeft", spec := "bucketLeft", apart := false }
def BucketLeftSaid : Prop := bucketLeftRow.holds Try.pinned (OpenSpec.ofChange bucketLeftSpec)

/-- ITS FALSE NEIGHBOUR: 'it returns false'. Refute it at one input. -/
def bucketLeftWrong : ChangeSpec := { name := "bucketLeft", fn := fun _ => fun
  | [d1, d2, d3] => { results := [.lit (.bool false)], args := [d1, d2, d3] }
  | _ => none }
def BucketLeftWrongFalsely : Prop := bucketLeftRow.holds Try.pinned (OpenSpec.ofChange bucketLeftWrong)

/- THE SECOND FORM. 'bulk': how many values and letters a reading holds, each counted each time it is reached (what is shared counts as often as it is met; a slice's spare places count too). A statement '..UptoSaid' is the law's where the arguments, and the package variables that the reading takes, are together of bulk at most 1048576: NARROWER than '..Said'. Prove '..Said' where nothing that the law and all that it calls make is longer than what came in: it says more and counts as full. Else prove '..UptoSaid'. A law counts once. -/
mutual
def uptoBulk {H : Type} : DataW H → Nat
  | .lit (.string bytes) => bytes.length + 1
  | .lit _ => 1
  | .nil => 1
  | .ptr d => uptoBulk d + 1
  | .slice elems spare => uptoBulkAll elems + uptoBulkAll spare + 1
  | .agg parts => uptoBulkAll parts + 1
  | .iface _ d => uptoBulk d + 1
  | .map entries => uptoBulkEntries entries + 1
  | .held _ => 1
def uptoBulkAll {H : Type} : List (DataW H) → Nat
  | [] => 0
  | d :: r => uptoBulk d + uptoBulkAll r
def uptoBulkEntries {H : Type} : List (Lit × DataW H) → Nat
  | [] => 0
  | x :: r => uptoBulkEntry x + uptoBulkEntries r
def uptoBulkEntry {H : Type} : Lit × DataW H → Nat
  | (.string bytes, d) => bytes.length + uptoBulk d + 1
  | (_, d) => uptoBulk d + 1
 end
def uptoSmall : (H : Type) → List (DataW H) → Bool := fun _ ds => decide (uptoBulkAll ds ≤ 1048576)
def OpenSpec.upto (s : _root_.Go.ChangeSpec) : _root_.Go.OpenSpec := { _root_.Go.OpenSpec.ofChange s with cond := some uptoSmall }

/-- 'jobberlaw17.BucketRuns', WHERE WHAT IT READS IS OF BULK AT MOST 1048576: true; the input reads as it did. -/
def bucketRunsUptoRow : OpenClaim := { program := "ytgeoonfjoolklaa", sum := "ac2c992be070ce13e1f0f408d982972c4540e78ece8199a212324976bc3eb27d", func := "jobber/jobberlaw17.BucketRuns", spec := "bucketRuns", apart := false, narrowed := true }
def BucketRunsUptoSaid : Prop := bucketRunsUptoRow.holds Try.pinned (OpenSpec.upto bucketRunsSpec)

/-- 'jobberlaw17.BucketFair', WHERE WHAT IT READS IS OF BULK AT MOST 1048576: true; the input reads as it did. -/
def bucketFairUptoRow : OpenClaim := { program := "ytgeoonfjoolklaa", sum := "ac2c992be070ce13e1f0f408d982972c4540e78ece8199a212324976bc3eb27d", func := "jobber/jobberlaw17.BucketFair", spec := "bucketFair", apart := false, narrowed := true }
def BucketFairUptoSaid : Prop := bucketFairUptoRow.holds Try.pinned (OpenSpec.upto bucketFairSpec)

/-- 'jobberlaw17.BucketPlays', WHERE WHAT IT READS IS OF BULK AT MOST 1048576: true; the input reads as it did. -/
def bucketPlaysUptoRow : OpenClaim := { program := "ytgeoonfjoolklaa", sum := "ac2c992be070ce13e1f0f408d982972c4540e78ece8199a212324976bc3eb27d", func := "jobber/jobberlaw17.BucketPlays", spec := "bucketPlays", apart := false, narrowed := true }
def BucketPlaysUptoSaid : Prop := bucketPlaysUptoRow.holds Try.pinned (OpenSpec.upto bucketPlaysSpec)

/-- 'jobberlaw17.BucketBound', WHERE WHAT IT READS IS OF BULK AT MOST 1048576: true; the input reads as it did. -/
def bucketBoundUptoRow : OpenClaim := { program := "ytgeoonfjoolklaa", sum := "ac2c992be070ce13e1f0f408d982972c4540e78ece8199a212324976bc3eb27d", func := "jobber/jobberlaw17.BucketBound", spec := "bucketBound", apart := false, narrowed := true }
def BucketBoundUptoSaid : Prop := bucketBoundUptoRow.holds Try.pinned (OpenSpec.upto bucketBoundSpec)

/-- 'jobberlaw17.BucketLeft', WHERE WHAT IT READS IS OF BULK AT MOST 1048576: true; the input reads as it did. -/
def bucketLeftUptoRow : OpenClaim := { program := "ytgeoonfjoolklaa", sum := "ac2c992be070ce13e1f0f408d982972c4540e78ece8199a212324976bc3eb27d", func := "jobber/jobberlaw17.BucketLeft", spec := "bucketLeft", apart := false, narrowed := true }
def BucketLeftUptoSaid : Prop := bucketLeftUptoRow.holds Try.pinned (OpenSpec.upto bucketLeftSpec)

end Rows
end Go.Proofs.Ytgeoonfjoolklaa
