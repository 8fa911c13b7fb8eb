/- TopTime: whatever the input, the law returns true, and its arguments read as before. Conditions: none beyond the statement's own. -/
import Derived.Test.YtepopigkpnoflaaGreatTopTimeL
import Derived.Test.YtepopigkpnoflaaGreatRows
import Derived.Test.YtepopigkpnoflaaGreatChecked
namespace AM
open Go Go.Proofs Go.Proofs.YtepopigkpnoflaaGreat Go.ChangeShapes Go.WideShapes Go.ChangeAt Go.RowKit
set_option linter.unusedVariables false
set_option linter.unusedSimpArgs false
set_option maxRecDepth 100000
theorem ownK : ownKnob Tryz.prog.godebug = none := by kernel_rfl
theorem laidK : laidOutB Tryz.prog = true := by kernel_rfl
theorem fg.pure (d : xf (xk 0 [(.deep (.int .i64)), (.deep Gj)])) (h : Y5 0 [(.deep (.int .i64)), (.deep Gj)] d) : fg W0 (d, ()) = some (((true, ()), ()) : (Bool × Unit) × Unit) := by
  obtain ⟨a0, a1, _⟩ := d
  obtain ⟨h0, h1, _⟩ := h
  exact fg.law _ _ h0 h1
/- The row of the law TopTime, out of what its printed function answers. -/
theorem fg.lifted (os : Os) (started : os.Started) (H : Type) (enc : TypeId × Value → H) :
    ReturnsInHanded {} Tryz.checked os 4 .any (Rows.topTimeSpec.pre6 enc Tryz.prog Tryz.f4 Rows.topTimeRow.domain false) (Rows.topTimeSpec.post enc Tryz.prog Tryz.f4 false true false false) := by
  refine returnsInHanded_of_change_sized (C := Tryz.checked) ownK started (by kernel_rfl) Tryz.func4
    (ChangeSpec.witness6 (enc := enc) (C := Tryz.checked) false ⟨#[], #[.slice none 0 0, .slice none 0 0], []⟩ 8 (by kernel_rfl) (by kernel_rfl) (by kernel_rfl) (by kernel_rfl)) ?_
  intro W base args ds gs before hval0 hW hcnd hsz0 _
  have hsz : (DataW.weightsEach Tryz.prog (Tryz.f4.params.toList ++ Rows.topTimeSpec.plain.varTypes Tryz.prog) (ds ++ gs)).all (· ≤ reachBytes) = true := hsz0
  have hval : ∀ (j : Nat) t v, Tryz.f4.params[j]? = some t → args[j]? = some v → Value.okWide Tryz.prog W .any base t v := hval0
  have hW' := hW
  obtain ⟨p, q, hA0, hV, rfl, hfz, hnd⟩ := hW
  have hA : DataW.TrodAll enc Tryz.prog W 0 (fun _ => true) true Tryz.f4.params.toList args.toList ds p := hA0
  rw [Tryz.params4] at hA hval hsz
  obtain ⟨rfl, rfl⟩ := trodVars_none hV
  obtain ⟨v0, vs0, d0, ds0, p0, q0, hargs0, rfl, hp0, h0, r0⟩ := trodAll_cons hA
  obtain ⟨v1, vs1, d1, ds1, p1, q1, hargs1, rfl, hp1, h1, r1⟩ := trodAll_cons r0
  obtain ⟨hvs, rfl, hps⟩ := trodAll_nil r1
  have hs : Small (DataW.weightsEach Tryz.prog [22, 54] [d0, d1]) := fun n hn => by
    have hvt : Rows.topTimeSpec.plain.varTypes Tryz.prog = [] := rfl
    rw [hvt, List.append_nil, List.append_nil] at hsz
    exact of_decide_eq_true (List.all_eq_true.1 hsz n hn)
  refine (za8 (ts := [(.deep (.int .i64)), (.deep Gj)]) (pts := [22, 54]) (base := base) (enc := enc) (fun base => (fg.c (b := base)).2) fg.pure (by kernel_rfl) hA (fun j t v g1 g2 => hval j t v (by simpa using g1) g2) hs).mono fun e W' he => ?_
  obtain ⟨rfl, bel⟩ := he
  exact ⟨_, rfl, _, _, _, [], _, [], hW', trodAll_mk1 (shut_bool Tryz.underlying4 _), IB laidK (by kernel_rfl) hA bel, rfl, bel.frame _, fun h => by cases h⟩
theorem fg.over : Rows.topTimeRow.holds Tryz.pinned (OpenSpec.ofChange Rows.topTimeSpec) :=
  OpenClaim.holds_of_wide 4 Tryz.f4 rfl rfl rfl rfl rfl rfl rfl ⟨rfl, rfl, rfl, rfl, rfl⟩ rfl rfl rfl rfl rfl (by kernel_rfl) Tryz.func4 (by kernel_rfl)
    (of_decide_eq_true (by kernel_rfl)) (by unfold Func.isWrapper; first | (rw [if_pos (by decide +kernel)]; kernel_rfl) | (rw [if_neg (by decide +kernel)]; exact ⟨rfl, rfl⟩))
    (fun os started H enc _ => fg.lifted os started H enc)
end AM
namespace Go.Proofs.YtepopigkpnoflaaGreat
theorem topTime_holds : Rows.TopTimeSaid := AM.fg.over
#print axioms topTime_holds
end Go.Proofs.YtepopigkpnoflaaGreat

