/-
  No cell of these rows narrows 'for every input' (looked for: loops, veiled, ifaces, maps, wideKeys, modest, calm, conditions, laid).
  DERIVED. THE GIVEN ROWS OF THIS SEAT. 6 by the template 'for every input the law returns true; each argument reads behind the call as it read before'; 0 by the template 'total and deterministic' (their statements: YtajpookikkojpaaTotals.lean).
  GIVEN WITH THE SEED: the statements are not yours to turn. If you find one false, say at which input.
  Laid BY PROGRAM, IN A SANDBOX (cutbox-rows.mjs): the forced cells as the released guide's own fill.sh prints them over the translation aae39330e6bdf922… (all of the seat's roots in one cut). By AI agents, Wed Nov 11 2026. No macro, syntax, notation, axiom, sorry.
-/
import Derived.Test.YtajpookikkojpaaChecked
import GoSem.Claim
import GoSem.ClaimJoined
import GoSem.ClaimMapViews
import Derived.JoinedTies
import Derived.KernelRfl
namespace Go.Proofs.Ytajpookikkojpaa
/- THE CELL 'sum', in the pinned program and in every row, IS THE sha256 OF THE DUMP (.gsa) THAT YtajpookikkojpaaProg.lean LOADS. Nothing in Lean hashes anything: it is a label: what it is worth is what the hold of that sum in a sandbox is worth. -/
noncomputable def Try.pinned : Pinned := { name := "ytajpookikkojpaa", sum := "aae39330e6bdf922618e765eeee9fb691348213020b33e0742f2108f5c1687e1", checked := Try.checked }
namespace Rows
def none {H : Type} : Left H := { results := [], args := [] }

/-- 'jobberlaw14.AllowRuns': WHATEVER THE INPUT: true; the input reads as it did. -/
def allowRunsSpec : ChangeSpec := { name := "allowRuns", fn := fun _ => fun
  | [] => { results := [.lit (.bool true)], args := [] }
  | _ => none }
def allowRunsRow : OpenClaim := { program := "ytajpookikkojpaa", sum := "aae39330e6bdf922618e765eeee9fb691348213020b33e0742f2108f5c1687e1", func := "jobber/jobberlaw14.AllowRuns", spec := "allowRuns", apart := false }
def AllowRunsSaid : Prop := allowRunsRow.holds Try.pinned (OpenSpec.ofChange allowRunsSpec)

/-- ITS FALSE NEIGHBOUR: 'it returns false'. Refute it at one input. -/
def allowRunsWrong : ChangeSpec := { name := "allowRuns", fn := fun _ => fun
  | [] => { results := [.lit (.bool false)], args := [] }
  | _ => none }
def AllowRunsWrongFalsely : Prop := allowRunsRow.holds Try.pinned (OpenSpec.ofChange allowRunsWrong)

/-- 'jobberlaw14.AllowTells': WHATEVER THE INPUT: true; the input reads as it did. -/
def allowTellsSpec : ChangeSpec := { name := "allowTells", fn := fun _ => fun
  | [d1, d2, d3, d4, d5, d6] => { results := [.lit (.bool true)], args := [d1, d2, d3, d4, d5, d6] }
  | _ => none }
def allowTellsRow : OpenClaim := { program := "ytajpookikkojpaa", sum := "aae39330e6bdf922618e765eeee9fb691348213020b33e0742f2108f5c1687e1", func := "jobber/jobberlaw14.AllowTells", spec := "allowTells", apart := false }
def AllowTellsSaid : Prop := allowTellsRow.holds Try.pinned (OpenSpec.ofChange allowTellsSpec)

/-- ITS FALSE NEIGHBOUR: 'it returns false'. Refute it at one input. -/
def allowTellsWrong : ChangeSpec := { name := "allowTells", fn := fun _ => fun
  | [d1, d2, d3, d4, d5, d6] => { results := [.lit (.bool false)], args := [d1, d2, d3, d4, d5, d6] }
  | _ => none }
def AllowTellsWrongFalsely : Prop := allowTellsRow.holds Try.pinned (OpenSpec.ofChange allowTellsWrong)

/-- 'jobberlaw14.AllowMore': WHATEVER THE INPUT: true; the input reads as it did. -/
def allowMoreSpec : ChangeSpec := { name := "allowMore", fn := fun _ => fun
  | [d1, d2, d3, d4, d5, d6, d7] => { results := [.lit (.bool true)], args := [d1, d2, d3, d4, d5, d6, d7] }
  | _ => none }
def allowMoreRow : OpenClaim := { program := "ytajpookikkojpaa", sum := "aae39330e6bdf922618e765eeee9fb691348213020b33e0742f2108f5c1687e1", func := "jobber/jobberlaw14.AllowMore", spec := "allowMore", apart := false }
def AllowMoreSaid : Prop := allowMoreRow.holds Try.pinned (OpenSpec.ofChange allowMoreSpec)

/-- ITS FALSE NEIGHBOUR: 'it returns false'. Refute it at one input. -/
def allowMoreWrong : ChangeSpec := { name := "allowMore", fn := fun _ => fun
  | [d1, d2, d3, d4, d5, d6, d7] => { results := [.lit (.bool false)], args := [d1, d2, d3, d4, d5, d6, d7] }
  | _ => none }
def AllowMoreWrongFalsely : Prop := allowMoreRow.holds Try.pinned (OpenSpec.ofChange allowMoreWrong)

/-- 'jobberlaw14.AllowFirms': WHATEVER THE INPUT: true; the input reads as it did. -/
def allowFirmsSpec : ChangeSpec := { name := "allowFirms", fn := fun _ => fun
  | [d1, d2, d3, d4, d5] => { results := [.lit (.bool true)], args := [d1, d2, d3, d4, d5] }
  | _ => none }
def allowFirmsRow : OpenClaim := { program := "ytajpookikkojpaa", sum := "aae39330e6bdf922618e765eeee9fb691348213020b33e0742f2108f5c1687e1", func := "jobber/jobberlaw14.AllowFirms", spec := "allowFirms", apart := false }
def AllowFirmsSaid : Prop := allowFirmsRow.holds Try.pinned (OpenSpec.ofChange allowFirmsSpec)

/-- ITS FALSE NEIGHBOUR: 'it returns false'. Refute it at one input. -/
def allowFirmsWrong : ChangeSpec := { name := "allowFirms", fn := fun _ => fun
  | [d1, d2, d3, d4, d5] => { results := [.lit (.bool false)], args := [d1, d2, d3, d4, d5] }
  | _ => none }
def AllowFirmsWrongFalsely : Prop := allowFirmsRow.holds Try.pinned (OpenSpec.ofChange allowFirmsWrong)

/-- 'jobberlaw14.AllowOff': WHATEVER THE INPUT: true; the input reads as it did. -/
def allowOffSpec : ChangeSpec := { name := "allowOff", fn := fun _ => fun
  | [d1, d2, d3, d4, d5, d6] => { results := [.lit (.bool true)], args := [d1, d2, d3, d4, d5, d6] }
  | _ => none }
def allowOffRow : OpenClaim := { program := "ytajpookikkojpaa", sum := "aae39330e6bdf922618e765eeee9fb691348213020b33e0742f2108f5c1687e1", func := "jobber/jobberlaw14.AllowOff", spec := "allowOff", apart := false }
def AllowOffSaid : Prop := allowOffRow.holds Try.pinned (OpenSpec.ofChange allowOffSpec)

/-- ITS FALSE NEIGHBOUR: 'it returns false'. Refute it at one input. -/
def allowOffWrong : ChangeSpec := { name := "allowOff", fn := fun _ => fun
  | [d1, d2, d3, d4, d5, d6] => { results := [.lit (.bool false)], args := [d1, d2, d3, d4, d5, d6] }
  | _ => none }
def AllowOffWrongFalsely : Prop := allowOffRow.holds Try.pinned (OpenSpec.ofChange allowOffWrong)

/-- 'jobberlaw14.AllowSelf': WHATEVER THE INPUT: true; the input reads as it did. -/
def allowSelfSpec : ChangeSpec := { name := "allowSelf", fn := fun _ => fun
  | [d1, d2, d3, d4] => { results := [.lit (.bool true)], args := [d1, d2, d3, d4] }
  | _ => none }
def allowSelfRow : OpenClaim := { program := "ytajpookikkojpaa", sum := "aae39330e6bdf922618e765eeee9fb691348213020b33e0742f2108f5c1687e1", func := "jobber/jobberlaw14.AllowSelf", spec := "allowSelf", apart := false }
def AllowSelfSaid : Prop := allowSelfRow.holds Try.pinned (OpenSpec.ofChange allowSelfSpec)

/-- ITS FALSE NEIGHBOUR: 'it returns false'. Refute it at one input. -/
def allowSelfWrong : ChangeSpec := { name := "allowSelf", fn := fun _ => fun
  | [d1, d2, d3, d4] => { results := [.lit (.bool false)], args := [d1, d2, d3, d4] }
  | _ => none }
def AllowSelfWrongFalsely : Prop := allowSelfRow.holds Try.pinned (OpenSpec.ofChange allowSelfWrong)

/- THE SECOND FORM. 'bulk': how many values and letters a reading holds, each counted each time it is reached (what is shared counts as often as it is met; a slice's spare places count too). A statement '..UptoSaid' is the law's where the arguments, and the package variables that the reading takes, are together of bulk at most 1048576: NARROWER than '..Said'. Prove '..Said' where nothing that the law and all that it calls make is longer than what came in: it says more and counts as full. Else prove '..UptoSaid'. A law counts once. -/
mutual
def uptoBulk {H : Type} : DataW H → Nat
  | .lit (.string bytes) => bytes.length + 1
  | .lit _ => 1
  | .nil => 1
  | .ptr d => uptoBulk d + 1
  | .slice elems spare => uptoBulkAll elems + uptoBulkAll spare + 1
  | .agg parts => uptoBulkAll parts + 1
  | .iface _ d => uptoBulk d + 1
  | .map entries => uptoBulkEntries entries + 1
  | .held _ => 1
def uptoBulkAll {H : Type} : List (DataW H) → Nat
  | [] => 0
  | d :: r => uptoBulk d + uptoBulkAll r
def uptoBulkEntries {H : Type} : List (Lit × DataW H) → Nat
  | [] => 0
  | x :: r => uptoBulkEntry x + uptoBulkEntries r
def uptoBulkEntry {H : Type} : Lit × DataW H → Nat
  | (.string bytes, d) => bytes.length + uptoBulk d + 1
  | (_, d) => uptoBulk d + 1
 end
def uptoSmall : (H : Type) → List (DataW H) → Bool := fun _ ds => decide (uptoBulkAll ds ≤ 1048576)
def OpenSpec.upto (s : _root_.Go.ChangeSpec) : _root_.Go.OpenSpec := { _root_.Go.OpenSpec.ofChange s with cond := some uptoSmall }

/-- 'jobberlaw14.AllowRuns', WHERE WHAT IT READS IS OF BULK AT MOST 1048576: true; the input reads as it did. -/
def allowRunsUptoRow : OpenClaim := { program := "ytajpookikkojpaa", sum := "aae39330e6bdf922618e765eeee9fb691348213020b33e0742f2108f5c1687e1", func := "jobber/jobberlaw14.AllowRuns", spec := "allowRuns", apart := false, narrowed := true }
def AllowRunsUptoSaid : Prop := allowRunsUptoRow.holds Try.pinned (OpenSpec.upto allowRunsSpec)

/-- 'jobberlaw14.AllowTells', WHERE WHAT IT READS IS OF BULK AT MOST 1048576: true; the input reads as it did. -/
def allowTellsUptoRow : OpenClaim := { program := "ytajpookikkojpaa", sum := "aae39330e6bdf922618e765eeee9fb691348213020b33e0742f2108f5c1687e1", func := "jobber/jobberlaw14.AllowTells", spec := "allowTells", apart := false, narrowed := true }
def AllowTellsUptoSaid : Prop := allowTellsUptoRow.holds Try.pinned (OpenSpec.upto allowTellsSpec)

/-- 'jobberlaw14.AllowMore', WHERE WHAT IT READS IS OF BULK AT MOST 1048576: true; the input reads as it did. -/
def allowMoreUptoRow : OpenClaim := { program := "ytajpookikkojpaa", sum := "aae39330e6bdf922618e765eeee9fb691348213020b33e0742f2108f5c1687e1", func := "jobber/jobberlaw14.AllowMore", spec := "allowMore", apart := false, narrowed := true }
def AllowMoreUptoSaid : Prop := allowMoreUptoRow.holds Try.pinned (OpenSpec.upto allowMoreSpec)

/-- 'jobberlaw14.AllowFirms', WHERE WHAT IT READS IS OF BULK AT MOST 1048576: true; the input reads as it did. -/
def allowFirmsUptoRow : OpenClaim := { program := "ytajpookikkojpaa", sum := "aae39330e6bdf922618e765eeee9fb691348213020b33e0742f2108f5c1687e1", func := "jobber/jobberlaw14.AllowFirms", spec := "allowFirms", apart := false, narrowed := true }
def AllowFirmsUptoSaid : Prop := allowFirmsUptoRow.holds Try.pinned (OpenSpec.upto allowFirmsSpec)

/-- 'jobberlaw14.AllowOff', WHERE WHAT IT READS IS OF BULK AT MOST 1048576: true; the input reads as it did. -/
def allowOffUptoRow : OpenClaim := { program := "ytajpookikkojpaa", sum := "aae39330e6bdf922618e765eeee9fb691348213020b33e0742f2108f5c1687e1", func := "jobber/jobberlaw14.AllowOff", spec := "allowOff", apart := false, narrowed := true }
def AllowOffUptoSaid : Prop := allowOffUptoRow.holds Try.pinned (OpenSpec.upto allowOffSpec)

/-- 'jobberlaw14.AllowSelf', WHERE WHAT IT READS IS OF BULK AT MOST 1048576: true; the input reads as it did. -/
def allowSelfUptoRow : OpenClaim := { program := "ytajpookikkojpaa", sum := "aae39330e6bdf922618e765eeee9fb691348213020b33e0742f2108f5c1687e1", func := "jobber/jobberlaw14.AllowSelf", spec := "allowSelf", apart := false, narrowed := true }
def AllowSelfUptoSaid : Prop := allowSelfUptoRow.holds Try.pinned (OpenSpec.upto allowSelfSpec)

end Rows
end Go.Proofs.Ytajpookikkojpaa
