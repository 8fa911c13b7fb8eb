/- TopDrains: whatever the input, the law returns true, and its arguments read as before. Conditions: none beyond the statement's own. -/
import Derived.Test.YtepopigkpnoflaaGreatDrTopDrainsL
import Derived.Test.YtepopigkpnoflaaGreatRows
import Derived.Test.YtepopigkpnoflaaGreatChecked
namespace AM
open Go Go.Proofs Go.Proofs.YtepopigkpnoflaaGreat Go.ChangeShapes Go.WideShapes Go.ChangeAt Go.RowKit
set_option linter.unusedVariables false
set_option linter.unusedSimpArgs false
set_option maxRecDepth 100000
theorem ownK : ownKnob Tryz.prog.godebug = none := by kernel_rfl
theorem laidK : laidOutB Tryz.prog = true := by kernel_rfl
theorem KR.pure (d : wN (wS 0 [(.deep (.int .i64)), (.deep L0), (.deep (.int .i64))])) (h : Yr 0 [(.deep (.int .i64)), (.deep L0), (.deep (.int .i64))] d) : dC W0 (d, ()) = some (((true, ()), ()) : (Bool × Unit) × Unit) := by
  obtain ⟨a0, a1, a2, _⟩ := d
  obtain ⟨h0, h1, h2, _⟩ := h
  exact KR.law _ _ _ h0 h1 h2
/- The row of the law TopDrains, out of what its printed function answers. -/
theorem KR.lifted (os : Os) (started : os.Started) (H : Type) (enc : TypeId × Value → H) :
    ReturnsInHanded {} Tryz.checked os 9 .any (Rows.topDrainsSpec.pre6 enc Tryz.prog Tryz.f9 Rows.topDrainsRow.domain false) (Rows.topDrainsSpec.post enc Tryz.prog Tryz.f9 false true false false) := by
  refine returnsInHanded_of_change_sized (C := Tryz.checked) ownK started (by kernel_rfl) Tryz.func9
    (ChangeSpec.witness6 (enc := enc) (C := Tryz.checked) false ⟨#[], #[.slice none 0 0, .slice none 0 0, .slice none 0 0], []⟩ 8 (by kernel_rfl) (by kernel_rfl) (by kernel_rfl) (by kernel_rfl)) ?_
  intro W base args ds gs before hval0 hW hcnd hsz0 _
  have hsz : (DataW.weightsEach Tryz.prog (Tryz.f9.params.toList ++ Rows.topDrainsSpec.plain.varTypes Tryz.prog) (ds ++ gs)).all (· ≤ reachBytes) = true := hsz0
  have hval : ∀ (j : Nat) t v, Tryz.f9.params[j]? = some t → args[j]? = some v → Value.okWide Tryz.prog W .any base t v := hval0
  have hW' := hW
  obtain ⟨p, q, hA0, hV, rfl, hfz, hnd⟩ := hW
  have hA : DataW.TrodAll enc Tryz.prog W 0 (fun _ => true) true Tryz.f9.params.toList args.toList ds p := hA0
  rw [Tryz.params9] at hA hval hsz
  obtain ⟨rfl, rfl⟩ := trodVars_none hV
  obtain ⟨v0, vs0, d0, ds0, p0, q0, hargs0, rfl, hp0, h0, r0⟩ := trodAll_cons hA
  obtain ⟨v1, vs1, d1, ds1, p1, q1, hargs1, rfl, hp1, h1, r1⟩ := trodAll_cons r0
  obtain ⟨v2, vs2, d2, ds2, p2, q2, hargs2, rfl, hp2, h2, r2⟩ := trodAll_cons r1
  obtain ⟨hvs, rfl, hps⟩ := trodAll_nil r2
  have hs : Small (DataW.weightsEach Tryz.prog [22, 54, 22] [d0, d1, d2]) := fun n hn => by
    have hvt : Rows.topDrainsSpec.plain.varTypes Tryz.prog = [] := rfl
    rw [hvt, List.append_nil, List.append_nil] at hsz
    exact of_decide_eq_true (List.all_eq_true.1 hsz n hn)
  refine (zaE (ts := [(.deep (.int .i64)), (.deep L0), (.deep (.int .i64))]) (pts := [22, 54, 22]) (base := base) (enc := enc) (fun base => (dC.c (b := base)).2) KR.pure (by kernel_rfl) hA (fun j t v g1 g2 => hval j t v (by simpa using g1) g2) hs).mono fun e W' he => ?_
  obtain ⟨rfl, bel⟩ := he
  exact ⟨_, rfl, _, _, _, [], _, [], hW', trodAll_mk1 (shut_bool Tryz.underlying4 _), H4 laidK (by kernel_rfl) hA bel, rfl, bel.frame _, fun h => by cases h⟩
theorem KR.over : Rows.topDrainsRow.holds Tryz.pinned (OpenSpec.ofChange Rows.topDrainsSpec) :=
  OpenClaim.holds_of_wide 9 Tryz.f9 rfl rfl rfl rfl rfl rfl rfl ⟨rfl, rfl, rfl, rfl, rfl⟩ rfl rfl rfl rfl rfl (by kernel_rfl) Tryz.func9 (by kernel_rfl)
    (of_decide_eq_true (by kernel_rfl)) (by unfold Func.isWrapper; first | (rw [if_pos (by decide +kernel)]; kernel_rfl) | (rw [if_neg (by decide +kernel)]; exact ⟨rfl, rfl⟩))
    (fun os started H enc _ => KR.lifted os started H enc)
end AM
namespace Go.Proofs.YtepopigkpnoflaaGreat
theorem topDrains_holds : Rows.TopDrainsSaid := AM.KR.over
#print axioms topDrains_holds
end Go.Proofs.YtepopigkpnoflaaGreat

