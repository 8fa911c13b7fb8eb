/- SessionPlays: whatever the input, the law returns true, and its arguments read as before. Conditions: none beyond the statement's own. -/
import Derived.Test.YtomaidnjkmgahaaLaws
import Derived.Test.YtomaidnjkmgahaaRows
import Derived.Test.YtomaidnjkmgahaaChecked
namespace AM
open Go Go.Proofs Go.Proofs.Ytomaidnjkmgahaa Go.ChangeShapes Go.WideShapes Go.ChangeAt Go.RowKit
set_option linter.unusedVariables false
set_option linter.unusedSimpArgs false
set_option maxRecDepth 100000
theorem ownK : ownKnob Try.prog.godebug = none := by kernel_rfl
theorem laidK : laidOutB Try.prog = true := by kernel_rfl
theorem jobberlaw20_SessionPlays.pure (d : sdens (holes 0 [(.arr 32 (.int .u8)), (.deep (.cons (.int .i64) (.cons (.int .i64) (.cons (.int .i64) (.cons (.arr 32 (.int .u8)) (.cons .bool .nil)))))), (.int .i64)])) (h : RngS 0 [(.arr 32 (.int .u8)), (.deep (.cons (.int .i64) (.cons (.int .i64) (.cons (.int .i64) (.cons (.arr 32 (.int .u8)) (.cons .bool .nil)))))), (.int .i64)] d) : jobberlaw20_SessionPlays (d, ()) = some (((true, ()), ()) : (Bool × Unit) × Unit) := by
  obtain ⟨a0, a1, a2, _⟩ := d
  obtain ⟨h0, h1, h2, _⟩ := h
  exact jobberlaw20_SessionPlays.law _ _ _ h0 h1 h2
/- The row of the law SessionPlays, out of what its printed function answers. -/
theorem jobberlaw20_SessionPlays.lifted (os : Os) (started : os.Started) (H : Type) (enc : TypeId × Value → H) :
    ReturnsInHanded {} Try.checked os 6 .any (Rows.sessionPlaysSpec.pre6 enc Try.prog Try.f6 Rows.sessionPlaysRow.domain false) (Rows.sessionPlaysSpec.post enc Try.prog Try.f6 false true false false) := by
  refine returnsInHanded_of_change_sized (C := Try.checked) ownK started (by kernel_rfl) Try.func6
    (ChangeSpec.witness6 (enc := enc) (C := Try.checked) false ⟨#[], #[.agg #[.int .u8 0, .int .u8 0, .int .u8 0, .int .u8 0, .int .u8 0, .int .u8 0, .int .u8 0, .int .u8 0, .int .u8 0, .int .u8 0, .int .u8 0, .int .u8 0, .int .u8 0, .int .u8 0, .int .u8 0, .int .u8 0, .int .u8 0, .int .u8 0, .int .u8 0, .int .u8 0, .int .u8 0, .int .u8 0, .int .u8 0, .int .u8 0, .int .u8 0, .int .u8 0, .int .u8 0, .int .u8 0, .int .u8 0, .int .u8 0, .int .u8 0, .int .u8 0], .slice none 0 0, .int .i64 0], []⟩ 8 (by kernel_rfl) (by kernel_rfl) (by kernel_rfl) (by kernel_rfl)) ?_
  intro W base args ds gs before hval0 hW hcnd hsz0 _
  have hsz : (DataW.weightsEach Try.prog (Try.f6.params.toList ++ Rows.sessionPlaysSpec.plain.varTypes Try.prog) (ds ++ gs)).all (· ≤ reachBytes) = true := hsz0
  have hval : ∀ (j : Nat) t v, Try.f6.params[j]? = some t → args[j]? = some v → Value.okWide Try.prog W .any base t v := hval0
  have hW' := hW
  obtain ⟨p, q, hA0, hV, rfl, hfz, hnd⟩ := hW
  have hA : DataW.TrodAll enc Try.prog W 0 (fun _ => true) true Try.f6.params.toList args.toList ds p := hA0
  rw [Try.params6] at hA hval hsz
  obtain ⟨rfl, rfl⟩ := trodVars_none hV
  obtain ⟨v0, vs0, d0, ds0, p0, q0, hargs0, rfl, hp0, h0, r0⟩ := trodAll_cons hA
  obtain ⟨v1, vs1, d1, ds1, p1, q1, hargs1, rfl, hp1, h1, r1⟩ := trodAll_cons r0
  obtain ⟨v2, vs2, d2, ds2, p2, q2, hargs2, rfl, hp2, h2, r2⟩ := trodAll_cons r1
  obtain ⟨hvs, rfl, hps⟩ := trodAll_nil r2
  have hs : Small (DataW.weightsEach Try.prog [25, 37, 3] [d0, d1, d2]) := fun n hn => by
    have hvt : Rows.sessionPlaysSpec.plain.varTypes Try.prog = [] := rfl
    rw [hvt, List.append_nil, List.append_nil] at hsz
    exact of_decide_eq_true (List.all_eq_true.1 hsz n hn)
  refine (law_walk (ts := [(.arr 32 (.int .u8)), (.deep (.cons (.int .i64) (.cons (.int .i64) (.cons (.int .i64) (.cons (.arr 32 (.int .u8)) (.cons .bool .nil)))))), (.int .i64)]) (pts := [25, 37, 3]) (base := base) (enc := enc) jobberlaw20_SessionPlays.con jobberlaw20_SessionPlays.pure (by kernel_rfl) hA (fun j t v g1 g2 => hval j t v (by simpa using g1) g2) hs).mono fun e W' he => ?_
  obtain ⟨rfl, bel⟩ := he
  exact ⟨_, rfl, _, _, _, [], _, [], hW', trodAll_mk1 (shut_bool Try.underlying4 _), trodAll_back laidK (by kernel_rfl) hA bel, rfl, bel.frame _, fun h => by cases h⟩
theorem jobberlaw20_SessionPlays.over : Rows.sessionPlaysRow.holds Try.pinned (OpenSpec.ofChange Rows.sessionPlaysSpec) :=
  OpenClaim.holds_of_wide 6 Try.f6 rfl rfl rfl rfl rfl rfl rfl ⟨rfl, rfl, rfl, rfl, rfl⟩ rfl rfl rfl rfl rfl (by kernel_rfl) Try.func6 (by kernel_rfl)
    (of_decide_eq_true (by kernel_rfl)) (by unfold Func.isWrapper; first | (rw [if_pos (by decide +kernel)]; kernel_rfl) | (rw [if_neg (by decide +kernel)]; exact ⟨rfl, rfl⟩))
    (fun os started H enc _ => jobberlaw20_SessionPlays.lifted os started H enc)
end AM
namespace Go.Proofs.Ytomaidnjkmgahaa
theorem sessionPlays_holds : Rows.SessionPlaysSaid := AM.jobberlaw20_SessionPlays.over
#print axioms sessionPlays_holds
end Go.Proofs.Ytomaidnjkmgahaa
