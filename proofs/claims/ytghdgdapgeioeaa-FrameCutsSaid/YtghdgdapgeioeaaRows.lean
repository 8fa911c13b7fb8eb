/-
  No cell of these rows narrows 'for every input' (looked for: loops, veiled, ifaces, maps, wideKeys, modest, calm, conditions, laid).
  DERIVED. THE GIVEN ROWS OF THIS SEAT. 6 by the template 'for every input the law returns true; each argument reads behind the call as it read before'; 0 by the template 'total and deterministic' (their statements: YtghdgdapgeioeaaTotals.lean).
  GIVEN WITH THE SEED: the statements are not yours to turn. If you find one false, say at which input.
  Laid BY PROGRAM, IN A SANDBOX (cutbox-rows.mjs): the forced cells as the released guide's own fill.sh prints them over the translation fb5e62d3926ecfb1… (all of the seat's roots in one cut). By AI agents, Wed Nov 11 2026. No macro, syntax, notation, axiom, sorry.
-/
import Derived.Test.YtghdgdapgeioeaaChecked
import GoSem.Claim
import GoSem.ClaimJoined
import GoSem.ClaimMapViews
import Derived.JoinedTies
import Derived.KernelRfl
namespace Go.Proofs.Ytghdgdapgeioeaa
/- THE CELL 'sum', in the pinned program and in every row, IS THE sha256 OF THE DUMP (.gsa) THAT YtghdgdapgeioeaaProg.lean LOADS. Nothing in Lean hashes anything: it is a label: what it is worth is what the hold of that sum in a sandbox is worth. -/
noncomputable def Try.pinned : Pinned := { name := "ytghdgdapgeioeaa", sum := "fb5e62d3926ecfb1584cbf0e5e1944c67d14d952b93ee387ba4fc5745f1f7ce1", checked := Try.checked }
namespace Rows
def none {H : Type} : Left H := { results := [], args := [] }

/-- 'jobberlaw5.FrameRuns': WHATEVER THE INPUT: true; the input reads as it did. -/
def frameRunsSpec : ChangeSpec := { name := "frameRuns", fn := fun _ => fun
  | [] => { results := [.lit (.bool true)], args := [] }
  | _ => none }
def frameRunsRow : OpenClaim := { program := "ytghdgdapgeioeaa", sum := "fb5e62d3926ecfb1584cbf0e5e1944c67d14d952b93ee387ba4fc5745f1f7ce1", func := "jobber/jobberlaw5.FrameRuns", spec := "frameRuns", apart := false }
def FrameRunsSaid : Prop := frameRunsRow.holds Try.pinned (OpenSpec.ofChange frameRunsSpec)

/-- ITS FALSE NEIGHBOUR: 'it returns false'. Refute it at one input. -/
def frameRunsWrong : ChangeSpec := { name := "frameRuns", fn := fun _ => fun
  | [] => { results := [.lit (.bool false)], args := [] }
  | _ => none }
def FrameRunsWrongFalsely : Prop := frameRunsRow.holds Try.pinned (OpenSpec.ofChange frameRunsWrong)

/-- 'jobberlaw5.FrameTells': WHATEVER THE INPUT: true; the input reads as it did. -/
def frameTellsSpec : ChangeSpec := { name := "frameTells", fn := fun _ => fun
  | [d1, d2] => { results := [.lit (.bool true)], args := [d1, d2] }
  | _ => none }
def frameTellsRow : OpenClaim := { program := "ytghdgdapgeioeaa", sum := "fb5e62d3926ecfb1584cbf0e5e1944c67d14d952b93ee387ba4fc5745f1f7ce1", func := "jobber/jobberlaw5.FrameTells", spec := "frameTells", apart := false }
def FrameTellsSaid : Prop := frameTellsRow.holds Try.pinned (OpenSpec.ofChange frameTellsSpec)

/-- ITS FALSE NEIGHBOUR: 'it returns false'. Refute it at one input. -/
def frameTellsWrong : ChangeSpec := { name := "frameTells", fn := fun _ => fun
  | [d1, d2] => { results := [.lit (.bool false)], args := [d1, d2] }
  | _ => none }
def FrameTellsWrongFalsely : Prop := frameTellsRow.holds Try.pinned (OpenSpec.ofChange frameTellsWrong)

/-- 'jobberlaw5.FrameCuts': WHATEVER THE INPUT: true; the input reads as it did. -/
def frameCutsSpec : ChangeSpec := { name := "frameCuts", fn := fun _ => fun
  | [d1, d2] => { results := [.lit (.bool true)], args := [d1, d2] }
  | _ => none }
def frameCutsRow : OpenClaim := { program := "ytghdgdapgeioeaa", sum := "fb5e62d3926ecfb1584cbf0e5e1944c67d14d952b93ee387ba4fc5745f1f7ce1", func := "jobber/jobberlaw5.FrameCuts", spec := "frameCuts", apart := false }
def FrameCutsSaid : Prop := frameCutsRow.holds Try.pinned (OpenSpec.ofChange frameCutsSpec)

/-- ITS FALSE NEIGHBOUR: 'it returns false'. Refute it at one input. -/
def frameCutsWrong : ChangeSpec := { name := "frameCuts", fn := fun _ => fun
  | [d1, d2] => { results := [.lit (.bool false)], args := [d1, d2] }
  | _ => none }
def FrameCutsWrongFalsely : Prop := frameCutsRow.holds Try.pinned (OpenSpec.ofChange frameCutsWrong)

/-- 'jobberlaw5.FrameLong': WHATEVER THE INPUT: true; the input reads as it did. -/
def frameLongSpec : ChangeSpec := { name := "frameLong", fn := fun _ => fun
  | [d1, d2] => { results := [.lit (.bool true)], args := [d1, d2] }
  | _ => none }
def frameLongRow : OpenClaim := { program := "ytghdgdapgeioeaa", sum := "fb5e62d3926ecfb1584cbf0e5e1944c67d14d952b93ee387ba4fc5745f1f7ce1", func := "jobber/jobberlaw5.FrameLong", spec := "frameLong", apart := false }
def FrameLongSaid : Prop := frameLongRow.holds Try.pinned (OpenSpec.ofChange frameLongSpec)

/-- ITS FALSE NEIGHBOUR: 'it returns false'. Refute it at one input. -/
def frameLongWrong : ChangeSpec := { name := "frameLong", fn := fun _ => fun
  | [d1, d2] => { results := [.lit (.bool false)], args := [d1, d2] }
  | _ => none }
def FrameLongWrongFalsely : Prop := frameLongRow.holds Try.pinned (OpenSpec.ofChange frameLongWrong)

/-- 'jobberlaw5.FrameTwins': WHATEVER THE INPUT: true; the input reads as it did. -/
def frameTwinsSpec : ChangeSpec := { name := "frameTwins", fn := fun _ => fun
  | [d1, d2] => { results := [.lit (.bool true)], args := [d1, d2] }
  | _ => none }
def frameTwinsRow : OpenClaim := { program := "ytghdgdapgeioeaa", sum := "fb5e62d3926ecfb1584cbf0e5e1944c67d14d952b93ee387ba4fc5745f1f7ce1", func := "jobber/jobberlaw5.FrameTwins", spec := "frameTwins", apart := false }
def FrameTwinsSaid : Prop := frameTwinsRow.holds Try.pinned (OpenSpec.ofChange frameTwinsSpec)

/-- ITS FALSE NEIGHBOUR: 'it returns false'. Refute it at one input. -/
def frameTwinsWrong : ChangeSpec := { name := "frameTwins", fn := fun _ => fun
  | [d1, d2] => { results := [.lit (.bool false)], args := [d1, d2] }
  | _ => none }
def FrameTwinsWrongFalsely : Prop := frameTwinsRow.holds Try.pinned (OpenSpec.ofChange frameTwinsWrong)

/-- 'jobberlaw5.FrameByte': WHATEVER THE INPUT: true; the input reads as it did. -/
def frameByteSpec : ChangeSpec := { name := "frameByte", fn := fun _ => fun
  | [d] => { results := [.lit (.bool true)], args := [d] }
  | _ => none }
def frameByteRow : OpenClaim := { program := "ytghdgdapgeioeaa", sum := "fb5e62d3926ecfb1584cbf0e5e1944c67d14d952b93ee387ba4fc5745f1f7ce1", func := "jobber/jobberlaw5.FrameByte", spec := "frameByte", apart := false }
def FrameByteSaid : Prop := frameByteRow.holds Try.pinned (OpenSpec.ofChange frameByteSpec)

/-- ITS FALSE NEIGHBOUR: 'it returns false'. Refute it at one input. -/
def frameByteWrong : ChangeSpec := { name := "frameByte", fn := fun _ => fun
  | [d] => { results := [.lit (.bool false)], args := [d] }
  | _ => none }
def FrameByteWrongFalsely : Prop := frameByteRow.holds Try.pinned (OpenSpec.ofChange frameByteWrong)

/- THE SECOND FORM. 'bulk': how many values and letters a reading holds, each counted each time it is reached (what is shared counts as often as it is met; a slice's spare places count too). A statement '..UptoSaid' is the law's where the arguments, and the package variables that the reading takes, are together of bulk at most 1048576: NARROWER than '..Said'. Prove '..Said' where nothing that the law and all that it calls make is longer than what came in: it says more and counts as full. Else prove '..UptoSaid'. A law counts once. -/
mutual
def uptoBulk {H : Type} : DataW H → Nat
  | .lit (.string bytes) => bytes.length + 1
  | .lit _ => 1
  | .nil => 1
  | .ptr d => uptoBulk d + 1
  | .slice elems spare => uptoBulkAll elems + uptoBulkAll spare + 1
  | .agg parts => uptoBulkAll parts + 1
  | .iface _ d => uptoBulk d + 1
  | .map entries => uptoBulkEntries entries + 1
  | .held _ => 1
def uptoBulkAll {H : Type} : List (DataW H) → Nat
  | [] => 0
  | d :: r => uptoBulk d + uptoBulkAll r
def uptoBulkEntries {H : Type} : List (Lit × DataW H) → Nat
  | [] => 0
  | x :: r => uptoBulkEntry x + uptoBulkEntries r
def uptoBulkEntry {H : Type} : Lit × DataW H → Nat
  | (.string bytes, d) => bytes.length + uptoBulk d + 1
  | (_, d) => uptoBulk d + 1
 end
def uptoSmall : (H : Type) → List (DataW H) → Bool := fun _ ds => decide (uptoBulkAll ds ≤ 1048576)
def OpenSpec.upto (s : _root_.Go.ChangeSpec) : _root_.Go.OpenSpec := { _root_.Go.OpenSpec.ofChange s with cond := some uptoSmall }

/-- 'jobberlaw5.FrameRuns', WHERE WHAT IT READS IS OF BULK AT MOST 1048576: true; the input reads as it did. -/
def frameRunsUptoRow : OpenClaim := { program := "ytghdgdapgeioeaa", sum := "fb5e62d3926ecfb1584cbf0e5e1944c67d14d952b93ee387ba4fc5745f1f7ce1", func := "jobber/jobberlaw5.FrameRuns", spec := "frameRuns", apart := false, narrowed := true }
def FrameRunsUptoSaid : Prop := frameRunsUptoRow.holds Try.pinned (OpenSpec.upto frameRunsSpec)

/-- 'jobberlaw5.FrameTells', WHERE WHAT IT READS IS OF BULK AT MOST 1048576: true; the input reads as it did. -/
def frameTellsUptoRow : OpenClaim := { program := "ytghdgdapgeioeaa", sum := "fb5e62d3926ecfb1584cbf0e5e1944c67d14d952b93ee387ba4fc5745f1f7ce1", func := "jobber/jobberlaw5.FrameTells", spec := "frameTells", apart := false, narrowed := true }
def FrameTellsUptoSaid : Prop := frameTellsUptoRow.holds Try.pinned (OpenSpec.upto frameTellsSpec)

/-- 'jobberlaw5.FrameCuts', WHERE WHAT IT READS IS OF BULK AT MOST 1048576: true; the input reads as it did. -/
def frameCutsUptoRow : OpenClaim := { program := "ytghdgdapgeioeaa", sum := "fb5e62d3926ecfb1584cbf0e5e1944c67d14d952b93ee387ba4fc5745f1f7ce1", func := "jobber/jobberlaw5.FrameCuts", spec := "frameCuts", apart := false, narrowed := true }
def FrameCutsUptoSaid : Prop := frameCutsUptoRow.holds Try.pinned (OpenSpec.upto frameCutsSpec)

/-- 'jobberlaw5.FrameLong', WHERE WHAT IT READS IS OF BULK AT MOST 1048576: true; the input reads as it did. -/
def frameLongUptoRow : OpenClaim := { program := "ytghdgdapgeioeaa", sum := "fb5e62d3926ecfb1584cbf0e5e1944c67d14d952b93ee387ba4fc5745f1f7ce1", func := "jobber/jobberlaw5.FrameLong", spec := "frameLong", apart := false, narrowed := true }
def FrameLongUptoSaid : Prop := frameLongUptoRow.holds Try.pinned (OpenSpec.upto frameLongSpec)

/-- 'jobberlaw5.FrameTwins', WHERE WHAT IT READS IS OF BULK AT MOST 1048576: true; the input reads as it did. -/
def frameTwinsUptoRow : OpenClaim := { program := "ytghdgdapgeioeaa", sum := "fb5e62d3926ecfb1584cbf0e5e1944c67d14d952b93ee387ba4fc5745f1f7ce1", func := "jobber/jobberlaw5.FrameTwins", spec := "frameTwins", apart := false, narrowed := true }
def FrameTwinsUptoSaid : Prop := frameTwinsUptoRow.holds Try.pinned (OpenSpec.upto frameTwinsSpec)

/-- 'jobberlaw5.FrameByte', WHERE WHAT IT READS IS OF BULK AT MOST 1048576: true; the input reads as it did. -/
def frameByteUptoRow : OpenClaim := { program := "ytghdgdapgeioeaa", sum := "fb5e62d3926ecfb1584cbf0e5e1944c67d14d952b93ee387ba4fc5745f1f7ce1", func := "jobber/jobberlaw5.FrameByte", spec := "frameByte", apart := false, narrowed := true }
def FrameByteUptoSaid : Prop := frameByteUptoRow.holds Try.pinned (OpenSpec.upto frameByteSpec)

end Rows
end Go.Proofs.Ytghdgdapgeioeaa
