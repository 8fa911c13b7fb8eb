/-
  No cell of these rows narrows 'for every input' (looked for: loops, veiled, ifaces, maps, wideKeys, modest, calm, conditions, laid).
  DERIVED. THE GIVEN ROWS OF THIS SEAT. 4 by the template 'for every input the law returns true; each argument reads behind the call as it read before'; 0 by the template 'total and deterministic' (their statements: YtjjdkeddjckikaaTotals.lean).
  GIVEN WITH THE SEED: the statements are not yours to turn. If you find one false, say at which input.
  Laid BY PROGRAM, IN A SANDBOX (cutbox-rows.mjs): the forced cells as the released guide's own fill.sh prints them over the translation 500679f584ebe95e… (all of the seat's roots in one cut). By AI agents, Wed Nov 11 2026. No macro, syntax, notation, axiom, sorry.
-/
import Derived.Test.YtjjdkeddjckikaaChecked
import GoSem.Claim
import GoSem.ClaimJoined
import GoSem.ClaimMapViews
import Derived.JoinedTies
import Derived.KernelRfl
namespace Go.Proofs.Ytjjdkeddjckikaa
/- THE CELL 'sum', in the pinned program and in every row, IS THE sha256 OF THE DUMP (.gsa) THAT YtjjdkeddjckikaaProg.lean LOADS. Nothing in Lean hashes anything: it is a label: what it is worth is what the hold of that sum in a sandbox is worth. -/
noncomputable def Try.pinned : Pinned := { name := "ytjjdkeddjckikaa", sum := "500679f584ebe95e6a41e5d7016f028acbdf5c4e34ea26a18dc0b2fcaf6ab86b", checked := Try.checked }
namespace Rows
def none {H : Type} : Left H := { results := [], args := [] }

/-- 'jobberlaw21.MeterRuns': WHATEVER THE INPUT: true; the input reads as it did. -/
def meterRunsSpec : ChangeSpec := { name := "meterRuns", fn := fun _ => fun
  | [] => { results := [.lit (.bool true)], args := [] }
  | _ => none }
def meterRunsRow : OpenClaim := { program := "ytjjdkeddjckikaa", sum := "500679f584ebe95e6a41e5d7016f028acbdf5c4e34ea26a18dc0b2fcaf6ab86b", func := "jobber/jobberlaw21.MeterRuns", spec := "meterRuns", inPlace := ["sync/atomic.AddInt64", "sync/atomic.SwapInt64", "sync/atomic.LoadInt64"], apart := false }
def MeterRunsSaid : Prop := meterRunsRow.holds Try.pinned (OpenSpec.ofChange meterRunsSpec)

/-- ITS FALSE NEIGHBOUR: 'it returns false'. Refute it at one input. -/
def meterRunsWrong : ChangeSpec := { name := "meterRuns", fn := fun _ => fun
  | [] => { results := [.lit (.bool false)], args := [] }
  | _ => none }
def MeterRunsWrongFalsely : Prop := meterRunsRow.holds Try.pinned (OpenSpec.ofChange meterRunsWrong)

/-- 'jobberlaw21.MeterPlays': WHATEVER THE INPUT: true; the input reads as it did. -/
def meterPlaysSpec : ChangeSpec := { name := "meterPlays", fn := fun _ => fun
  | [d] => { results := [.lit (.bool true)], args := [d] }
  | _ => none }
def meterPlaysRow : OpenClaim := { program := "ytjjdkeddjckikaa", sum := "500679f584ebe95e6a41e5d7016f028acbdf5c4e34ea26a18dc0b2fcaf6ab86b", func := "jobber/jobberlaw21.MeterPlays", spec := "meterPlays", inPlace := ["sync/atomic.SwapInt64", "sync/atomic.AddInt64", "sync/atomic.LoadInt64"], apart := false }
def MeterPlaysSaid : Prop := meterPlaysRow.holds Try.pinned (OpenSpec.ofChange meterPlaysSpec)

/-- ITS FALSE NEIGHBOUR: 'it returns false'. Refute it at one input. -/
def meterPlaysWrong : ChangeSpec := { name := "meterPlays", fn := fun _ => fun
  | [d] => { results := [.lit (.bool false)], args := [d] }
  | _ => none }
def MeterPlaysWrongFalsely : Prop := meterPlaysRow.holds Try.pinned (OpenSpec.ofChange meterPlaysWrong)

/-- 'jobberlaw21.MeterOrder': WHATEVER THE INPUT: true; the input reads as it did. -/
def meterOrderSpec : ChangeSpec := { name := "meterOrder", fn := fun _ => fun
  | [d1, d2] => { results := [.lit (.bool true)], args := [d1, d2] }
  | _ => none }
def meterOrderRow : OpenClaim := { program := "ytjjdkeddjckikaa", sum := "500679f584ebe95e6a41e5d7016f028acbdf5c4e34ea26a18dc0b2fcaf6ab86b", func := "jobber/jobberlaw21.MeterOrder", spec := "meterOrder", inPlace := ["sync/atomic.AddInt64", "sync/atomic.LoadInt64", "sync/atomic.SwapInt64"], apart := false }
def MeterOrderSaid : Prop := meterOrderRow.holds Try.pinned (OpenSpec.ofChange meterOrderSpec)

/-- ITS FALSE NEIGHBOUR: 'it returns false'. Refute it at one input. -/
def meterOrderWrong : ChangeSpec := { name := "meterOrder", fn := fun _ => fun
  | [d1, d2] => { results := [.lit (.bool false)], args := [d1, d2] }
  | _ => none }
def MeterOrderWrongFalsely : Prop := meterOrderRow.holds Try.pinned (OpenSpec.ofChange meterOrderWrong)

/-- 'jobberlaw21.MeterEach': WHATEVER THE INPUT: true; the input reads as it did. -/
def meterEachSpec : ChangeSpec := { name := "meterEach", fn := fun _ => fun
  | [d1, d2, d3] => { results := [.lit (.bool true)], args := [d1, d2, d3] }
  | _ => none }
def meterEachRow : OpenClaim := { program := "ytjjdkeddjckikaa", sum := "500679f584ebe95e6a41e5d7016f028acbdf5c4e34ea26a18dc0b2fcaf6ab86b", func := "jobber/jobberlaw21.MeterEach", spec := "meterEach", inPlace := ["sync/atomic.AddInt64", "sync/atomic.LoadInt64", "sync/atomic.SwapInt64"], apart := false }
def MeterEachSaid : Prop := meterEachRow.holds Try.pinned (OpenSpec.ofChange meterEachSpec)

/-- ITS FALSE NEIGHBOUR: 'it returns false'. Refute it at one input. -/
def meterEachWrong : ChangeSpec := { name := "meterEach", fn := fun _ => fun
  | [d1, d2, d3] => { results := [.lit (.bool false)], args := [d1, d2, d3] }
  | _ => none }
def MeterEachWrongFalsely : Prop := meterEachRow.holds Try.pinned (OpenSpec.ofChange meterEachWrong)

/- THE SECOND FORM. 'bulk': how many values and letters a reading holds, each counted each time it is reached (what is shared counts as often as it is met; a slice's spare places count too). A statement '..UptoSaid' is the law's where the arguments, and the package variables that the reading takes, are together of bulk at most 1048576: NARROWER than '..Said'. Prove '..Said' where nothing that the law and all that it calls make is longer than what came in: it says more and counts as full. Else prove '..UptoSaid'. A law counts once. -/
mutual
def uptoBulk {H : Type} : DataW H → Nat
  | .lit (.string bytes) => bytes.length + 1
  | .lit _ => 1
  | .nil => 1
  | .ptr d => uptoBulk d + 1
  | .slice elems spare => uptoBulkAll elems + uptoBulkAll spare + 1
  | .agg parts => uptoBulkAll parts + 1
  | .iface _ d => uptoBulk d + 1
  | .map entries => uptoBulkEntries entries + 1
  | .held _ => 1
def uptoBulkAll {H : Type} : List (DataW H) → Nat
  | [] => 0
  | d :: r => uptoBulk d + uptoBulkAll r
def uptoBulkEntries {H : Type} : List (Lit × DataW H) → Nat
  | [] => 0
  | x :: r => uptoBulkEntry x + uptoBulkEntries r
def uptoBulkEntry {H : Type} : Lit × DataW H → Nat
  | (.string bytes, d) => bytes.length + uptoBulk d + 1
  | (_, d) => uptoBulk d + 1
 end
def uptoSmall : (H : Type) → List (DataW H) → Bool := fun _ ds => decide (uptoBulkAll ds ≤ 1048576)
def OpenSpec.upto (s : _root_.Go.ChangeSpec) : _root_.Go.OpenSpec := { _root_.Go.OpenSpec.ofChange s with cond := some uptoSmall }

/-- 'jobberlaw21.MeterRuns', WHERE WHAT IT READS IS OF BULK AT MOST 1048576: true; the input reads as it did. -/
def meterRunsUptoRow : OpenClaim := { program := "ytjjdkeddjckikaa", sum := "500679f584ebe95e6a41e5d7016f028acbdf5c4e34ea26a18dc0b2fcaf6ab86b", func := "jobber/jobberlaw21.MeterRuns", spec := "meterRuns", inPlace := ["sync/atomic.AddInt64", "sync/atomic.SwapInt64", "sync/atomic.LoadInt64"], apart := false, narrowed := true }
def MeterRunsUptoSaid : Prop := meterRunsUptoRow.holds Try.pinned (OpenSpec.upto meterRunsSpec)

/-- 'jobberlaw21.MeterPlays', WHERE WHAT IT READS IS OF BULK AT MOST 1048576: true; the input reads as it did. -/
def meterPlaysUptoRow : OpenClaim := { program := "ytjjdkeddjckikaa", sum := "500679f584ebe95e6a41e5d7016f028acbdf5c4e34ea26a18dc0b2fcaf6ab86b", func := "jobber/jobberlaw21.MeterPlays", spec := "meterPlays", inPlace := ["sync/atomic.SwapInt64", "sync/atomic.AddInt64", "sync/atomic.LoadInt64"], apart := false, narrowed := true }
def MeterPlaysUptoSaid : Prop := meterPlaysUptoRow.holds Try.pinned (OpenSpec.upto meterPlaysSpec)

/-- 'jobberlaw21.MeterOrder', WHERE WHAT IT READS IS OF BULK AT MOST 1048576: true; the input reads as it did. -/
def meterOrderUptoRow : OpenClaim := { program := "ytjjdkeddjckikaa", sum := "500679f584ebe95e6a41e5d7016f028acbdf5c4e34ea26a18dc0b2fcaf6ab86b", func := "jobber/jobberlaw21.MeterOrder", spec := "meterOrder", inPlace := ["sync/atomic.AddInt64", "sync/atomic.LoadInt64", "sync/atomic.SwapInt64"], apart := false, narrowed := true }
def MeterOrderUptoSaid : Prop := meterOrderUptoRow.holds Try.pinned (OpenSpec.upto meterOrderSpec)

/-- 'jobberlaw21.MeterEach', WHERE WHAT IT READS IS OF BULK AT MOST 1048576: true; the input reads as it did. -/
def meterEachUptoRow : OpenClaim := { program := "ytjjdkeddjckikaa", sum := "500679f584ebe95e6a41e5d7016f028acbdf5c4e34ea26a18dc0b2fcaf6ab86b", func := "jobber/jobberlaw21.MeterEach", spec := "meterEach", inPlace := ["sync/atomic.AddInt64", "sync/atomic.LoadInt64", "sync/atomic.SwapInt64"], apart := false, narrowed := true }
def MeterEachUptoSaid : Prop := meterEachUptoRow.holds Try.pinned (OpenSpec.upto meterEachSpec)

end Rows
end Go.Proofs.Ytjjdkeddjckikaa
