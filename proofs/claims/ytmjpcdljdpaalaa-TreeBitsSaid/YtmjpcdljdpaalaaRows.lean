/-
  No cell of these rows narrows 'for every input' (looked for: loops, veiled, ifaces, maps, wideKeys, modest, calm, conditions, laid).
  DERIVED. THE GIVEN ROWS OF THIS SEAT. 5 by the template 'for every input the law returns true; each argument reads behind the call as it read before'; 0 by the template 'total and deterministic' (their statements: YtmjpcdljdpaalaaTotals.lean).
  GIVEN WITH THE SEED: the statements are not yours to turn. If you find one false, say at which input.
  Laid BY PROGRAM, IN A SANDBOX (cutbox-rows.mjs): the forced cells as the released guide's own fill.sh prints them over the translation cb38c0b3d64de653… (all of the seat's roots in one cut). By AI agents, Wed Nov 11 2026. No macro, syntax, notation, axiom, sorry.
-/
import Derived.Test.YtmjpcdljdpaalaaChecked
import GoSem.Claim
import GoSem.ClaimJoined
import GoSem.ClaimMapViews
import Derived.JoinedTies
import Derived.KernelRfl
namespace Go.Proofs.Ytmjpcdljdpaalaa
/- THE CELL 'sum', in the pinned program and in every row, IS THE sha256 OF THE DUMP (.gsa) THAT YtmjpcdljdpaalaaProg.lean LOADS. Nothing in Lean hashes anything: it is a label: what it is worth is what the hold of that sum in a sandbox is worth. -/
noncomputable def Try.pinned : Pinned := { name := "ytmjpcdljdpaalaa", sum := "cb38c0b3d64de65301ef18f7ab2e1e689ca2a2a5cc925a81ca48f6dc5ad11f25", checked := Try.checked }
namespace Rows
def none {H : Type} : Left H := { results := [], args := [] }

/-- 'jobberlaw13.TreeRuns': WHATEVER THE INPUT: true; the input reads as it did. -/
def treeRunsSpec : ChangeSpec := { name := "treeRuns", fn := fun _ => fun
  | [] => { results := [.lit (.bool true)], args := [] }
  | _ => none }
def treeRunsRow : OpenClaim := { program := "ytmjpcdljdpaalaa", sum := "cb38c0b3d64de65301ef18f7ab2e1e689ca2a2a5cc925a81ca48f6dc5ad11f25", func := "jobber/jobberlaw13.TreeRuns", spec := "treeRuns", apart := false }
def TreeRunsSaid : Prop := treeRunsRow.holds Try.pinned (OpenSpec.ofChange treeRunsSpec)

/-- ITS FALSE NEIGHBOUR: 'it returns false'. Refute it at one input. -/
def treeRunsWrong : ChangeSpec := { name := "treeRuns", fn := fun _ => fun
  | [] => { results := [.lit (.bool false)], args := [] }
  | _ => none }
def TreeRunsWrongFalsely : Prop := treeRunsRow.holds Try.pinned (OpenSpec.ofChange treeRunsWrong)

/-- 'jobberlaw13.TreeSets': WHATEVER THE INPUT: true; the input reads as it did. -/
def treeSetsSpec : ChangeSpec := { name := "treeSets", fn := fun _ => fun
  | [d1, d2, d3] => { results := [.lit (.bool true)], args := [d1, d2, d3] }
  | _ => none }
def treeSetsRow : OpenClaim := { program := "ytmjpcdljdpaalaa", sum := "cb38c0b3d64de65301ef18f7ab2e1e689ca2a2a5cc925a81ca48f6dc5ad11f25", func := "jobber/jobberlaw13.TreeSets", spec := "treeSets", apart := false }
def TreeSetsSaid : Prop := treeSetsRow.holds Try.pinned (OpenSpec.ofChange treeSetsSpec)

/-- ITS FALSE NEIGHBOUR: 'it returns false'. Refute it at one input. -/
def treeSetsWrong : ChangeSpec := { name := "treeSets", fn := fun _ => fun
  | [d1, d2, d3] => { results := [.lit (.bool false)], args := [d1, d2, d3] }
  | _ => none }
def TreeSetsWrongFalsely : Prop := treeSetsRow.holds Try.pinned (OpenSpec.ofChange treeSetsWrong)

/-- 'jobberlaw13.TreeBits': WHATEVER THE INPUT: true; the input reads as it did. -/
def treeBitsSpec : ChangeSpec := { name := "treeBits", fn := fun _ => fun
  | [d1, d2, d3, d4] => { results := [.lit (.bool true)], args := [d1, d2, d3, d4] }
  | _ => none }
def treeBitsRow : OpenClaim := { program := "ytmjpcdljdpaalaa", sum := "cb38c0b3d64de65301ef18f7ab2e1e689ca2a2a5cc925a81ca48f6dc5ad11f25", func := "jobber/jobberlaw13.TreeBits", spec := "treeBits", apart := false }
def TreeBitsSaid : Prop := treeBitsRow.holds Try.pinned (OpenSpec.ofChange treeBitsSpec)

/-- ITS FALSE NEIGHBOUR: 'it returns false'. Refute it at one input. -/
def treeBitsWrong : ChangeSpec := { name := "treeBits", fn := fun _ => fun
  | [d1, d2, d3, d4] => { results := [.lit (.bool false)], args := [d1, d2, d3, d4] }
  | _ => none }
def TreeBitsWrongFalsely : Prop := treeBitsRow.holds Try.pinned (OpenSpec.ofChange treeBitsWrong)

/-- 'jobberlaw13.TreeTells': WHATEVER THE INPUT: true; the input reads as it did. -/
def treeTellsSpec : ChangeSpec := { name := "treeTells", fn := fun _ => fun
  | [d1, d2, d3, d4, d5, d6] => { results := [.lit (.bool true)], args := [d1, d2, d3, d4, d5, d6] }
  | _ => none }
def treeTellsRow : OpenClaim := { program := "ytmjpcdljdpaalaa", sum := "cb38c0b3d64de65301ef18f7ab2e1e689ca2a2a5cc925a81ca48f6dc5ad11f25", func := "jobber/jobberlaw13.TreeTells", spec := "treeTells", apart := false }
def TreeTellsSaid : Prop := treeTellsRow.holds Try.pinned (OpenSpec.ofChange treeTellsSpec)

/-- ITS FALSE NEIGHBOUR: 'it returns false'. Refute it at one input. -/
def treeTellsWrong : ChangeSpec := { name := "treeTells", fn := fun _ => fun
  | [d1, d2, d3, d4, d5, d6] => { results := [.lit (.bool false)], args := [d1, d2, d3, d4, d5, d6] }
  | _ => none }
def TreeTellsWrongFalsely : Prop := treeTellsRow.holds Try.pinned (OpenSpec.ofChange treeTellsWrong)

/-- 'jobberlaw13.TreeOff': WHATEVER THE INPUT: true; the input reads as it did. -/
def treeOffSpec : ChangeSpec := { name := "treeOff", fn := fun _ => fun
  | [d1, d2] => { results := [.lit (.bool true)], args := [d1, d2] }
  | _ => none }
def treeOffRow : OpenClaim := { program := "ytmjpcdljdpaalaa", sum := "cb38c0b3d64de65301ef18f7ab2e1e689ca2a2a5cc925a81ca48f6dc5ad11f25", func := "jobber/jobberlaw13.TreeOff", spec := "treeOff", apart := false }
def TreeOffSaid : Prop := treeOffRow.holds Try.pinned (OpenSpec.ofChange treeOffSpec)

/-- ITS FALSE NEIGHBOUR: 'it returns false'. Refute it at one input. -/
def treeOffWrong : ChangeSpec := { name := "treeOff", fn := fun _ => fun
  | [d1, d2] => { results := [.lit (.bool false)], args := [d1, d2] }
  | _ => none }
def TreeOffWrongFalsely : Prop := treeOffRow.holds Try.pinned (OpenSpec.ofChange treeOffWrong)

/- THE SECOND FORM. 'bulk': how many values and letters a reading holds, each counted each time it is reached (what is shared counts as often as it is met; a slice's spare places count too). A statement '..UptoSaid' is the law's where the arguments, and the package variables that the reading takes, are together of bulk at most 1048576: NARROWER than '..Said'. Prove '..Said' where nothing that the law and all that it calls make is longer than what came in: it says more and counts as full. Else prove '..UptoSaid'. A law counts once. -/
mutual
def uptoBulk {H : Type} : DataW H → Nat
  | .lit (.string bytes) => bytes.length + 1
  | .lit _ => 1
  | .nil => 1
  | .ptr d => uptoBulk d + 1
  | .slice elems spare => uptoBulkAll elems + uptoBulkAll spare + 1
  | .agg parts => uptoBulkAll parts + 1
  | .iface _ d => uptoBulk d + 1
  | .map entries => uptoBulkEntries entries + 1
  | .held _ => 1
def uptoBulkAll {H : Type} : List (DataW H) → Nat
  | [] => 0
  | d :: r => uptoBulk d + uptoBulkAll r
def uptoBulkEntries {H : Type} : List (Lit × DataW H) → Nat
  | [] => 0
  | x :: r => uptoBulkEntry x + uptoBulkEntries r
def uptoBulkEntry {H : Type} : Lit × DataW H → Nat
  | (.string bytes, d) => bytes.length + uptoBulk d + 1
  | (_, d) => uptoBulk d + 1
 end
def uptoSmall : (H : Type) → List (DataW H) → Bool := fun _ ds => decide (uptoBulkAll ds ≤ 1048576)
def OpenSpec.upto (s : _root_.Go.ChangeSpec) : _root_.Go.OpenSpec := { _root_.Go.OpenSpec.ofChange s with cond := some uptoSmall }

/-- 'jobberlaw13.TreeRuns', WHERE WHAT IT READS IS OF BULK AT MOST 1048576: true; the input reads as it did. -/
def treeRunsUptoRow : OpenClaim := { program := "ytmjpcdljdpaalaa", sum := "cb38c0b3d64de65301ef18f7ab2e1e689ca2a2a5cc925a81ca48f6dc5ad11f25", func := "jobber/jobberlaw13.TreeRuns", spec := "treeRuns", apart := false, narrowed := true }
def TreeRunsUptoSaid : Prop := treeRunsUptoRow.holds Try.pinned (OpenSpec.upto treeRunsSpec)

/-- 'jobberlaw13.TreeSets', WHERE WHAT IT READS IS OF BULK AT MOST 1048576: true; the input reads as it did. -/
def treeSetsUptoRow : OpenClaim := { program := "ytmjpcdljdpaalaa", sum := "cb38c0b3d64de65301ef18f7ab2e1e689ca2a2a5cc925a81ca48f6dc5ad11f25", func := "jobber/jobberlaw13.TreeSets", spec := "treeSets", apart := false, narrowed := true }
def TreeSetsUptoSaid : Prop := treeSetsUptoRow.holds Try.pinned (OpenSpec.upto treeSetsSpec)

/-- 'jobberlaw13.TreeBits', WHERE WHAT IT READS IS OF BULK AT MOST 1048576: true; the input reads as it did. -/
def treeBitsUptoRow : OpenClaim := { program := "ytmjpcdljdpaalaa", sum := "cb38c0b3d64de65301ef18f7ab2e1e689ca2a2a5cc925a81ca48f6dc5ad11f25", func := "jobber/jobberlaw13.TreeBits", spec := "treeBits", apart := false, narrowed := true }
def TreeBitsUptoSaid : Prop := treeBitsUptoRow.holds Try.pinned (OpenSpec.upto treeBitsSpec)

/-- 'jobberlaw13.TreeTells', WHERE WHAT IT READS IS OF BULK AT MOST 1048576: true; the input reads as it did. -/
def treeTellsUptoRow : OpenClaim := { program := "ytmjpcdljdpaalaa", sum := "cb38c0b3d64de65301ef18f7ab2e1e689ca2a2a5cc925a81ca48f6dc5ad11f25", func := "jobber/jobberlaw13.TreeTells", spec := "treeTells", apart := false, narrowed := true }
def TreeTellsUptoSaid : Prop := treeTellsUptoRow.holds Try.pinned (OpenSpec.upto treeTellsSpec)

/-- 'jobberlaw13.TreeOff', WHERE WHAT IT READS IS OF BULK AT MOST 1048576: true; the input reads as it did. -/
def treeOffUptoRow : OpenClaim := { program := "ytmjpcdljdpaalaa", sum := "cb38c0b3d64de65301ef18f7ab2e1e689ca2a2a5cc925a81ca48f6dc5ad11f25", func := "jobber/jobberlaw13.TreeOff", spec := "treeOff", apart := false, narrowed := true }
def TreeOffUptoSaid : Prop := treeOffUptoRow.holds Try.pinned (OpenSpec.upto treeOffSpec)

end Rows
end Go.Proofs.Ytmjpcdljdpaalaa
