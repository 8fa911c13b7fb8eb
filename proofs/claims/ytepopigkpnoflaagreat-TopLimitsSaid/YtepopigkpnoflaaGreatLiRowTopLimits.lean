/- TopLimits: whatever the input, the law returns true, and its arguments read as before. Conditions: none beyond the statement's own. -/
import Derived.Test.YtepopigkpnoflaaGreatLiTopLimitsL
import Derived.Test.YtepopigkpnoflaaGreatRows
import Derived.Test.YtepopigkpnoflaaGreatChecked
namespace AM
open Go Go.Proofs Go.Proofs.YtepopigkpnoflaaGreat Go.ChangeShapes Go.WideShapes Go.ChangeAt Go.RowKit
set_option linter.unusedVariables false
set_option linter.unusedSimpArgs false
set_option maxRecDepth 100000
theorem ownK : ownKnob Tryz.prog.godebug = none := by kernel_rfl
theorem laidK : laidOutB Tryz.prog = true := by kernel_rfl
theorem dK.pure (d : wZ (xd 0 [(.deep (.int .i64)), (.deep VU)])) (h : Y2 0 [(.deep (.int .i64)), (.deep VU)] d) : dK W0 (d, ()) = some (((true, ()), ()) : (Bool × Unit) × Unit) := by
  obtain ⟨a0, a1, _⟩ := d
  obtain ⟨h0, h1, _⟩ := h
  exact dK.law _ _ h0 h1
/- The row of the law TopLimits, out of what its printed function answers. -/
theorem dK.lifted (os : Os) (started : os.Started) (H : Type) (enc : TypeId × Value → H) :
    ReturnsInHanded {} Tryz.checked os 6 .any (Rows.topLimitsSpec.pre6 enc Tryz.prog Tryz.f6 Rows.topLimitsRow.domain false) (Rows.topLimitsSpec.post enc Tryz.prog Tryz.f6 false true false false) := by
  refine returnsInHanded_of_change_sized (C := Tryz.checked) ownK started (by kernel_rfl) Tryz.func6
    (ChangeSpec.witness6 (enc := enc) (C := Tryz.checked) false ⟨#[], #[.slice none 0 0, .slice none 0 0], []⟩ 8 (by kernel_rfl) (by kernel_rfl) (by kernel_rfl) (by kernel_rfl)) ?_
  intro W base args ds gs before hval0 hW hcnd hsz0 _
  have hsz : (DataW.weightsEach Tryz.prog (Tryz.f6.params.toList ++ Rows.topLimitsSpec.plain.varTypes Tryz.prog) (ds ++ gs)).all (· ≤ reachBytes) = true := hsz0
  have hval : ∀ (j : Nat) t v, Tryz.f6.params[j]? = some t → args[j]? = some v → Value.okWide Tryz.prog W .any base t v := hval0
  have hW' := hW
  obtain ⟨p, q, hA0, hV, rfl, hfz, hnd⟩ := hW
  have hA : DataW.TrodAll enc Tryz.prog W 0 (fun _ => true) true Tryz.f6.params.toList args.toList ds p := hA0
  rw [Tryz.params6] at hA hval hsz
  obtain ⟨rfl, rfl⟩ := trodVars_none hV
  obtain ⟨v0, vs0, d0, ds0, p0, q0, hargs0, rfl, hp0, h0, r0⟩ := trodAll_cons hA
  obtain ⟨v1, vs1, d1, ds1, p1, q1, hargs1, rfl, hp1, h1, r1⟩ := trodAll_cons r0
  obtain ⟨hvs, rfl, hps⟩ := trodAll_nil r1
  have hs : Small (DataW.weightsEach Tryz.prog [22, 54] [d0, d1]) := fun n hn => by
    have hvt : Rows.topLimitsSpec.plain.varTypes Tryz.prog = [] := rfl
    rw [hvt, List.append_nil, List.append_nil] at hsz
    exact of_decide_eq_true (List.all_eq_true.1 hsz n hn)
  refine (za8 (ts := [(.deep (.int .i64)), (.deep VU)]) (pts := [22, 54]) (base := base) (enc := enc) (fun base => (dK.c (b := base)).2) dK.pure (by kernel_rfl) hA (fun j t v g1 g2 => hval j t v (by simpa using g1) g2) hs).mono fun e W' he => ?_
  obtain ⟨rfl, bel⟩ := he
  exact ⟨_, rfl, _, _, _, [], _, [], hW', trodAll_mk1 (shut_bool Tryz.underlying4 _), Ir laidK (by kernel_rfl) hA bel, rfl, bel.frame _, fun h => by cases h⟩
theorem dK.over : Rows.topLimitsRow.holds Tryz.pinned (OpenSpec.ofChange Rows.topLimitsSpec) :=
  OpenClaim.holds_of_wide 6 Tryz.f6 rfl rfl rfl rfl rfl rfl rfl ⟨rfl, rfl, rfl, rfl, rfl⟩ rfl rfl rfl rfl rfl (by kernel_rfl) Tryz.func6 (by kernel_rfl)
    (of_decide_eq_true (by kernel_rfl)) (by unfold Func.isWrapper; first | (rw [if_pos (by decide +kernel)]; kernel_rfl) | (rw [if_neg (by decide +kernel)]; exact ⟨rfl, rfl⟩))
    (fun os started H enc _ => dK.lifted os started H enc)
end AM
namespace Go.Proofs.YtepopigkpnoflaaGreat
theorem topLimits_holds : Rows.TopLimitsSaid := AM.dK.over
#print axioms topLimits_holds
end Go.Proofs.YtepopigkpnoflaaGreat

