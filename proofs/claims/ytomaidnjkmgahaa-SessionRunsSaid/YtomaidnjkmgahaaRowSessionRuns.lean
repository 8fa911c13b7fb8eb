/- SessionRuns: whatever the input, the law returns true, and its arguments read as before. Conditions: none beyond the statement's own. -/
import Derived.Test.YtomaidnjkmgahaaLaws
import Derived.Test.YtomaidnjkmgahaaRows
import Derived.Test.YtomaidnjkmgahaaChecked
namespace AM
open Go Go.Proofs Go.Proofs.Ytomaidnjkmgahaa Go.ChangeShapes Go.WideShapes Go.ChangeAt Go.RowKit
set_option linter.unusedVariables false
set_option linter.unusedSimpArgs false
set_option maxRecDepth 100000
theorem ownK : ownKnob Try.prog.godebug = none := by kernel_rfl
theorem laidK : laidOutB Try.prog = true := by kernel_rfl
theorem jobberlaw20_SessionRuns.pure (d : sdens (holes 0 [])) (h : RngS 0 [] d) : jobberlaw20_SessionRuns (d, ()) = some (((true, ()), ()) : (Bool × Unit) × Unit) := by
  exact jobberlaw20_SessionRuns.law 
/- The row of the law SessionRuns, out of what its printed function answers. -/
theorem jobberlaw20_SessionRuns.lifted (os : Os) (started : os.Started) (H : Type) (enc : TypeId × Value → H) :
    ReturnsInHanded {} Try.checked os 3 .any (Rows.sessionRunsSpec.pre6 enc Try.prog Try.f3 Rows.sessionRunsRow.domain false) (Rows.sessionRunsSpec.post enc Try.prog Try.f3 false true false false) := by
  refine returnsInHanded_of_change_sized (C := Try.checked) ownK started (by kernel_rfl) Try.func3
    (ChangeSpec.witness6 (enc := enc) (C := Try.checked) false ⟨#[], #[], []⟩ 8 (by kernel_rfl) (by kernel_rfl) (by kernel_rfl) (by kernel_rfl)) ?_
  intro W base args ds gs before hval0 hW hcnd hsz0 _
  have hsz : (DataW.weightsEach Try.prog (Try.f3.params.toList ++ Rows.sessionRunsSpec.plain.varTypes Try.prog) (ds ++ gs)).all (· ≤ reachBytes) = true := hsz0
  have hval : ∀ (j : Nat) t v, Try.f3.params[j]? = some t → args[j]? = some v → Value.okWide Try.prog W .any base t v := hval0
  have hW' := hW
  obtain ⟨p, q, hA0, hV, rfl, hfz, hnd⟩ := hW
  have hA : DataW.TrodAll enc Try.prog W 0 (fun _ => true) true Try.f3.params.toList args.toList ds p := hA0
  rw [Try.params3] at hA hval hsz
  obtain ⟨rfl, rfl⟩ := trodVars_none hV
  obtain ⟨rfl, rfl, rfl⟩ := trodAll_none hA
  have hs : Small (DataW.weightsEach (H := H) Try.prog [] []) := fun n hn => by simp [DataW.weightsEach] at hn
  refine (law_walk (ts := []) (pts := []) (base := base) (enc := enc) jobberlaw20_SessionRuns.con jobberlaw20_SessionRuns.pure (by kernel_rfl) hA (fun j t v g1 g2 => by simp at g1) hs).mono fun e W' he => ?_
  obtain ⟨rfl, bel⟩ := he
  exact ⟨_, rfl, _, _, _, [], _, [], hW', trodAll_mk1 (shut_bool Try.underlying4 _), trodAll_back laidK (by kernel_rfl) hA bel, rfl, bel.frame _, fun h => by cases h⟩
theorem jobberlaw20_SessionRuns.over : Rows.sessionRunsRow.holds Try.pinned (OpenSpec.ofChange Rows.sessionRunsSpec) :=
  OpenClaim.holds_of_wide 3 Try.f3 rfl rfl rfl rfl rfl rfl rfl ⟨rfl, rfl, rfl, rfl, rfl⟩ rfl rfl rfl rfl rfl (by kernel_rfl) Try.func3 (by kernel_rfl)
    (of_decide_eq_true (by kernel_rfl)) (by unfold Func.isWrapper; first | (rw [if_pos (by decide +kernel)]; kernel_rfl) | (rw [if_neg (by decide +kernel)]; exact ⟨rfl, rfl⟩))
    (fun os started H enc _ => jobberlaw20_SessionRuns.lifted os started H enc)
end AM
namespace Go.Proofs.Ytomaidnjkmgahaa
theorem sessionRuns_holds : Rows.SessionRunsSaid := AM.jobberlaw20_SessionRuns.over
#print axioms sessionRuns_holds
end Go.Proofs.Ytomaidnjkmgahaa
