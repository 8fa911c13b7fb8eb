/- The laws of chapter 21, in plain Lean. -/
import Derived.Test.YtjjdkeddjckikaaPrn
set_option linter.unusedVariables false
set_option linter.unusedSimpArgs false
namespace AM
open Go
set_option maxRecDepth 100000
theorem roomI : ((room : Nat) : Int) = 70368744177664 := by rw [room_eq]; rfl
theorem within21 {v lo hi : Int} (hv : -9223372036854775808 ≤ v ∧ v ≤ 9223372036854775807) (h0 : -4611686018427387904 ≤ lo) (h1 : lo ≤ hi) (h2 : hi ≤ 4611686018427387902) (h3 : hi - lo < 4611686018427387904) :
    ∃ r, lo ≤ r ∧ r ≤ hi ∧ jobberbook_Within ((v, lo, hi, ()), ()) = some ((r, ()), ()) := within_ok hv h0 h1 h2 h3
abbrev Ask := Int × Int × Bool × Unit
/-- the counters -/
abbrev em (x : Int) : Unit × Unit × Int × Unit := ((), (), x, ())
def mt (f : Int → Int) : List (Unit × Unit × Int × Unit) := [em (f 0), em (f 1), em (f 2), em (f 3)]
/-- what a call adds to a counter -/
def cadd (w n x : Int) : Int := if x = w ∧ 0 ≤ n ∧ n ≤ 4294967296 then n else 0
def SmC (f : Int → Int) : Prop := ∀ x, 0 ≤ f x ∧ f x ≤ 1152921504606846976
def ans (f : Int → Int) (w n : Int) : Int := if 0 ≤ w ∧ w < 4 ∧ 0 ≤ n ∧ n ≤ 4294967296 then f w + n else 0
theorem add21 (f : Int → Int) (hf : SmC f) (w n : Int) : meter_Meter_Add (((), w, n, ()), ((mt f, ()), ())) = some ((ans f w n, ()), ((mt fun x => f x + cadd w n x, ()), ())) := by
  by_cases h : 0 ≤ w ∧ w < 4 ∧ 0 ≤ n ∧ n ≤ 4294967296
  · have hw : wr .i64 (f w + n) = f w + n := by have := hf w; exact wr64 (by omega) (by omega)
    have e : ans f w n = f w + n := by rw [ans, if_pos h]
    have o1 : odec (0 ≤ w ∧ w < ((4 : Nat) : Int)) = true := ot (by omega)
    rw [e]
    have h4 : w = 0 ∨ w = 1 ∨ w = 2 ∨ w = 3 := by omega
    rcases h4 with rfl | rfl | rfl | rfl
    · simp only [meter_Meter_Add, mt, of_ (show ¬ (0 : Int) < 0 by omega), of_ (show ¬ (0 : Int) ≥ 4 by omega), of_ (show ¬ n < 0 by omega), of_ (show ¬ n > 4294967296 by omega), cond_false, o1, cond_true, show (0 : Int).toNat = 0 from rfl, List.getElem?_cons_zero, Option.bind_some, hw, List.set_cons_zero, cadd]
      simp [h.2.2]
    · simp only [meter_Meter_Add, mt, of_ (show ¬ (1 : Int) < 0 by omega), of_ (show ¬ (1 : Int) ≥ 4 by omega), of_ (show ¬ n < 0 by omega), of_ (show ¬ n > 4294967296 by omega), cond_false, o1, cond_true, show (1 : Int).toNat = 1 from rfl, List.getElem?_cons_zero, List.getElem?_cons_succ, Option.bind_some, hw, List.set_cons_zero, List.set_cons_succ, cadd]
      simp [h.2.2]
    · simp only [meter_Meter_Add, mt, of_ (show ¬ (2 : Int) < 0 by omega), of_ (show ¬ (2 : Int) ≥ 4 by omega), of_ (show ¬ n < 0 by omega), of_ (show ¬ n > 4294967296 by omega), cond_false, o1, cond_true, show (2 : Int).toNat = 2 from rfl, List.getElem?_cons_zero, List.getElem?_cons_succ, Option.bind_some, hw, List.set_cons_zero, List.set_cons_succ, cadd]
      simp [h.2.2]
    · simp only [meter_Meter_Add, mt, of_ (show ¬ (3 : Int) < 0 by omega), of_ (show ¬ (3 : Int) ≥ 4 by omega), of_ (show ¬ n < 0 by omega), of_ (show ¬ n > 4294967296 by omega), cond_false, o1, cond_true, show (3 : Int).toNat = 3 from rfl, List.getElem?_cons_zero, List.getElem?_cons_succ, Option.bind_some, hw, List.set_cons_zero, List.set_cons_succ, cadd]
      simp [h.2.2]
  · have e : ans f w n = 0 := by rw [ans, if_neg h]
    have em' : (mt fun x => f x + cadd w n x) = mt f := by
      have z : ∀ x, 0 ≤ x → x < 4 → cadd w n x = 0 := fun x h0 h1 => by rw [cadd, if_neg (by omega)]
      simp only [mt, z 0 (by omega) (by omega), z 1 (by omega) (by omega), z 2 (by omega) (by omega), z 3 (by omega) (by omega), Int.add_zero]
    rw [e, em']
    by_cases h1 : w < 0
    · simp only [meter_Meter_Add, ot h1, cond_true]
    · by_cases h2 : w ≥ 4
      · simp only [meter_Meter_Add, of_ h1, ot h2, cond_true, cond_false]
      · by_cases h3 : n < 0
        · simp only [meter_Meter_Add, of_ h1, of_ h2, ot h3, cond_true, cond_false]
        · simp only [meter_Meter_Add, of_ h1, of_ h2, of_ h3, ot (show n > 4294967296 by omega), cond_true, cond_false]
theorem count4 (a b c d : Int) : meter_count (([a, b, c, d], ()), ()) = some (((a, b, c, d, ()), ()), ()) := by
  simp only [meter_count, ot (show (0 : Int) ≤ 0 ∧ (0 : Int) < ((4 : Nat) : Int) by omega), ot (show (0 : Int) ≤ 1 ∧ (1 : Int) < ((4 : Nat) : Int) by omega), ot (show (0 : Int) ≤ 2 ∧ (2 : Int) < ((4 : Nat) : Int) by omega), ot (show (0 : Int) ≤ 3 ∧ (3 : Int) < ((4 : Nat) : Int) by omega), cond_true,
    show (0 : Int).toNat = 0 from rfl, show (1 : Int).toNat = 1 from rfl, show (2 : Int).toNat = 2 from rfl, show (3 : Int).toNat = 3 from rfl, List.getElem?_cons_zero, List.getElem?_cons_succ, Option.bind_some]
theorem wr01 : wr .i64 (0 + 1) = 1 := wr64 (by omega) (by omega)
theorem wr12 : wr .i64 (1 + 1) = 2 := wr64 (by omega) (by omega)
theorem wr23 : wr .i64 (2 + 1) = 3 := wr64 (by omega) (by omega)
theorem wr34 : wr .i64 (3 + 1) = 4 := wr64 (by omega) (by omega)
theorem count21 (f : Int → Int) : meter_Meter_Count (((), ()), ((mt f, ()), ())) = some (((f 0, f 1, f 2, f 3, ()), ()), ((mt f, ()), ())) := by
  have hl : loopFix meter_Meter_Count_l3 (((), (), (), 0, ()), ((mt f, ()), (0, 0, 0, 0, ()), List.replicate 4 (0 : Int), ())) = some (((), (), ()), ((mt f, ()), (0, 0, 0, 0, ()), [f 0, f 1, f 2, f 3], ())) := by
    have hr : List.replicate 4 (0 : Int) = [0, 0, 0, 0] := rfl
    rw [hr]
    iterate 5 (rw [loopFix_eq]; simp only [meter_Meter_Count_l3, mt, ot (show (0 : Int) < 4 by omega), ot (show (1 : Int) < 4 by omega), ot (show (2 : Int) < 4 by omega), ot (show (3 : Int) < 4 by omega), of_ (show ¬ (4 : Int) < 4 by omega), ot (show (0 : Int) ≤ 0 ∧ (0 : Int) < ((4 : Nat) : Int) by omega), ot (show (0 : Int) ≤ 1 ∧ (1 : Int) < ((4 : Nat) : Int) by omega), ot (show (0 : Int) ≤ 2 ∧ (2 : Int) < ((4 : Nat) : Int) by omega), ot (show (0 : Int) ≤ 3 ∧ (3 : Int) < ((4 : Nat) : Int) by omega), cond_true, cond_false,
      show (0 : Int).toNat = 0 from rfl, show (1 : Int).toNat = 1 from rfl, show (2 : Int).toNat = 2 from rfl, show (3 : Int).toNat = 3 from rfl, List.getElem?_cons_zero, List.getElem?_cons_succ, Option.bind_some, wr01, wr12, wr23, wr34, List.set_cons_zero, List.set_cons_succ])
  simp only [meter_Meter_Count, hl, Option.bind_some, count4]
theorem reset21 (f : Int → Int) : meter_Meter_Reset (((), ()), ((mt f, ()), ())) = some (((f 0, f 1, f 2, f 3, ()), ()), ((mt fun _ => 0, ()), ())) := by
  have hl : loopFix meter_Meter_Reset_l3 (((), (), (), 0, ()), ((mt f, ()), (0, 0, 0, 0, ()), List.replicate 4 (0 : Int), ())) = some (((), (), ()), ((mt fun _ => 0, ()), (0, 0, 0, 0, ()), [f 0, f 1, f 2, f 3], ())) := by
    have hr : List.replicate 4 (0 : Int) = [0, 0, 0, 0] := rfl
    rw [hr]
    iterate 5 (rw [loopFix_eq]; simp only [meter_Meter_Reset_l3, mt, ot (show (0 : Int) < 4 by omega), ot (show (1 : Int) < 4 by omega), ot (show (2 : Int) < 4 by omega), ot (show (3 : Int) < 4 by omega), of_ (show ¬ (4 : Int) < 4 by omega), ot (show (0 : Int) ≤ 0 ∧ (0 : Int) < ((4 : Nat) : Int) by omega), ot (show (0 : Int) ≤ 1 ∧ (1 : Int) < ((4 : Nat) : Int) by omega), ot (show (0 : Int) ≤ 2 ∧ (2 : Int) < ((4 : Nat) : Int) by omega), ot (show (0 : Int) ≤ 3 ∧ (3 : Int) < ((4 : Nat) : Int) by omega), cond_true, cond_false,
      show (0 : Int).toNat = 0 from rfl, show (1 : Int).toNat = 1 from rfl, show (2 : Int).toNat = 2 from rfl, show (3 : Int).toNat = 3 from rfl, List.getElem?_cons_zero, List.getElem?_cons_succ, Option.bind_some, wr01, wr12, wr23, wr34, List.set_cons_zero, List.set_cons_succ])
  simp only [meter_Meter_Reset, hl, Option.bind_some, count4]
theorem intEq_self (a : Int) : intEq a a = true := by simp [intEq, odec_eq]
theorem zero_smC : SmC fun _ => 0 := fun _ => ⟨Int.le_refl 0, by show (0 : Int) ≤ 1152921504606846976; omega⟩
theorem new21 : meter_New ((), ()) = some (((), ()), ((mt fun _ => 0, ()), ())) := rfl
theorem jobberlaw21_MeterRuns.law : jobberlaw21_MeterRuns ((), ()) = some ((true, ()), ()) := by
  have a1 := add21 (fun _ => 0) zero_smC 0 3
  have s1 : SmC fun x => 0 + cadd 0 3 x := fun x => by simp only [cadd]; split <;> omega
  have a2 := add21 _ s1 0 4
  have s2 : SmC fun x => (0 + cadd 0 3 x) + cadd 0 4 x := fun x => by simp only [cadd]; split <;> omega
  have a3 := add21 _ s2 3 (-1)
  have r0 : ans (fun _ => 0) 0 3 = 3 := rfl
  have r1 : ans (fun x => 0 + cadd 0 3 x) 0 4 = 7 := rfl
  have r2 : ans (fun x => (0 + cadd 0 3 x) + cadd 0 4 x) 3 (-1) = 0 := rfl
  rw [r0] at a1; rw [r1] at a2; rw [r2] at a3
  have v0 : (0 + cadd 0 3 0) + cadd 0 4 0 + cadd 3 (-1) 0 = 7 := rfl
  have v1 : (0 + cadd 0 3 1) + cadd 0 4 1 + cadd 3 (-1) 1 = 0 := rfl
  have v2 : (0 + cadd 0 3 2) + cadd 0 4 2 + cadd 3 (-1) 2 = 0 := rfl
  have v3 : (0 + cadd 0 3 3) + cadd 0 4 3 + cadd 3 (-1) 3 = 0 := rfl
  simp only [jobberlaw21_MeterRuns, new21, Option.bind_some, a1, a2, a3, ot (show (3 : Int) = 3 from rfl), ot (show (7 : Int) = 7 from rfl), ot (show (0 : Int) = 0 from rfl), cond_true, reset21, v0, v1, v2, v3, intEq_self, Bool.and_self, Bool.and_true, count21, odT]
theorem at4 (f : Int → Int) {w : Int} (h0 : 0 ≤ w) (h1 : w < 4) : [f 0, f 1, f 2, f 3][w.toNat]? = some (f w) := by
  have h4 : w = 0 ∨ w = 1 ∨ w = 2 ∨ w = 3 := by omega
  rcases h4 with rfl | rfl | rfl | rfl <;> rfl
theorem set4 (f : Int → Int) {w n : Int} (h0 : 0 ≤ w) (h1 : w < 4) (h2 : 0 ≤ n) (h3 : n ≤ 4294967296) : [f 0, f 1, f 2, f 3].set w.toNat (f w + n) = [f 0 + cadd w n 0, f 1 + cadd w n 1, f 2 + cadd w n 2, f 3 + cadd w n 3] := by
  have h4 : w = 0 ∨ w = 1 ∨ w = 2 ∨ w = 3 := by omega
  rcases h4 with rfl | rfl | rfl | rfl <;> simp [cadd, h2, h3]
theorem cadd_le (w n x : Int) : 0 ≤ cadd w n x ∧ cadd w n x ≤ 4294967296 := by rw [cadd]; split <;> omega
theorem jobberlaw21_MeterPlays.law0 (l : List Ask) : jobberlaw21_MeterPlays ((l, ()), ()) = some ((true, ()), ()) := by
  have key := loop_ind (b := jobberlaw21_MeterPlays_l6) (fun d => ∃ (i : Nat) (f : Int → Int), d = ((l, (), (), (i : Int), ()), ((mt f, ()), [f 0, f 1, f 2, f 3], ())) ∧ i ≤ 60 ∧ ∀ x, 0 ≤ f x ∧ f x ≤ (i : Int) * 4294967296) (fun r => ∃ X, r = .inr ((), X)) (fun d => 60 - d.1.2.2.2.1.toNat) (by
    rintro d ⟨i, f, rfl, hi, hf⟩
    by_cases h1 : i < l.length
    · by_cases h2 : i < 60
      · right
        have el := List.getElem?_eq_getElem h1
        generalize l[i] = q at el
        obtain ⟨w, n, c, u⟩ := q
        have e1 : wr .i64 ((i : Int) + 1) = ((i + 1 : Nat) : Int) := by rw [wr64 (by omega) (by omega)]; omega
        have o0 : odec ((0 : Int) ≤ 0 ∧ (0 : Int) < ((4 : Nat) : Int)) = true := ot (by omega)
        have o1 : odec ((0 : Int) ≤ 1 ∧ (1 : Int) < ((4 : Nat) : Int)) = true := ot (by omega)
        have o2 : odec ((0 : Int) ≤ 2 ∧ (2 : Int) < ((4 : Nat) : Int)) = true := ot (by omega)
        have o3 : odec ((0 : Int) ≤ 3 ∧ (3 : Int) < ((4 : Nat) : Int)) = true := ot (by omega)
        have hsm : SmC f := fun x => by have := hf x; omega
        cases c with
        | true =>
          refine ⟨((l, (), (), ((i + 1 : Nat) : Int), ()), ((mt fun _ => 0, ()), [0, 0, 0, 0], ())), ?_, ⟨i + 1, fun _ => 0, rfl, by omega, fun x => by show (0 : Int) ≤ 0 ∧ (0 : Int) ≤ _; omega⟩, by simp only; omega⟩
          simp only [jobberlaw21_MeterPlays_l6, ot (show (i : Int) < (l.length : Int) by omega), ot (show (i : Int) < 60 by omega), ot (show (0 : Int) ≤ (i : Int) by omega), cond_true, Int.toNat_natCast, el, Option.bind_some, reset21, o0, o1, o2, o3, show (0 : Int).toNat = 0 from rfl, show (1 : Int).toNat = 1 from rfl, show (2 : Int).toNat = 2 from rfl, show (3 : Int).toNat = 3 from rfl, List.getElem?_cons_zero, List.getElem?_cons_succ, intEq_self, Bool.and_self, Bool.and_true, Bool.not_true, cond_false, e1]
          rfl
        | false =>
          have ha := add21 f hsm w n
          have hb : ∀ x, 0 ≤ f x + cadd w n x ∧ f x + cadd w n x ≤ ((i + 1 : Nat) : Int) * 4294967296 := fun x => by have := hf x; have := cadd_le w n x; omega
          refine ⟨((l, (), (), ((i + 1 : Nat) : Int), ()), ((mt fun x => f x + cadd w n x, ()), [f 0 + cadd w n 0, f 1 + cadd w n 1, f 2 + cadd w n 2, f 3 + cadd w n 3], ())), ?_, ⟨i + 1, fun x => f x + cadd w n x, rfl, by omega, hb⟩, by simp only; omega⟩
          have base : ∀ z : Int → Int, meter_Meter_Count (((), ()), ((mt z, ()), ())) = _ := count21
          by_cases g : 0 ≤ w ∧ w < 4 ∧ 0 ≤ n ∧ n ≤ 4294967296
          · obtain ⟨g0, g1, g2, g3⟩ := g
            have hw : wr .i64 (f w + n) = f w + n := by have := hf w; exact wr64 (by omega) (by omega)
            have ow : odec (0 ≤ w ∧ w < ((4 : Nat) : Int)) = true := ot (by omega)
            have hans : ans f w n = f w + cadd w n w := by rw [ans, if_pos ⟨g0, g1, g2, g3⟩, cadd, if_pos ⟨rfl, g2, g3⟩]
            have hat := at4 (fun x => f x + cadd w n x) g0 g1
            simp only [jobberlaw21_MeterPlays_l6, ot (show (i : Int) < (l.length : Int) by omega), ot (show (i : Int) < 60 by omega), ot (show (0 : Int) ≤ (i : Int) by omega), cond_true, Int.toNat_natCast, el, Option.bind_some, cond_false, ot (show w ≥ 0 by omega), ot g1, ot (show n ≥ 0 by omega), ot g3, ow, at4 f g0 g1, hw, set4 f g0 g1 g2 g3, hat, ha, hans, odT, Bool.not_true, count21, o0, o1, o2, o3, show (0 : Int).toNat = 0 from rfl, show (1 : Int).toNat = 1 from rfl, show (2 : Int).toNat = 2 from rfl, show (3 : Int).toNat = 3 from rfl, List.getElem?_cons_zero, List.getElem?_cons_succ, intEq_self, Bool.and_self, Bool.and_true, e1]
          · have hans : ans f w n = 0 := by rw [ans, if_neg g]
            have z : ∀ x, 0 ≤ x → x < 4 → cadd w n x = 0 := fun x h0 h1 => by rw [cadd, if_neg (by omega)]
            have zz : [f 0 + cadd w n 0, f 1 + cadd w n 1, f 2 + cadd w n 2, f 3 + cadd w n 3] = [f 0, f 1, f 2, f 3] := by rw [z 0 (by omega) (by omega), z 1 (by omega) (by omega), z 2 (by omega) (by omega), z 3 (by omega) (by omega)]; simp only [Int.add_zero]
            have hm : (mt fun x => f x + cadd w n x) = mt f := by simp only [mt, z 0 (by omega) (by omega), z 1 (by omega) (by omega), z 2 (by omega) (by omega), z 3 (by omega) (by omega), Int.add_zero]
            rw [zz, hm]
            rw [hm, hans] at ha
            have rest : ∀ c0 c1 c2 c3, odec (w ≥ 0) = c0 → odec (w < 4) = c1 → odec (n ≥ 0) = c2 → odec (n ≤ 4294967296) = c3 → (c0 && c1 && c2 && c3) = false := by
              intro c0 c1 c2 c3 h0 h1 h2 h3
              cases c0 <;> cases c1 <;> cases c2 <;> cases c3 <;> first | rfl | exact absurd ⟨odec_iff.1 h0, odec_iff.1 h1, odec_iff.1 h2, odec_iff.1 h3⟩ g
            generalize q0 : odec (w ≥ 0) = c0 at rest
            generalize q1 : odec (w < 4) = c1 at rest
            generalize q2 : odec (n ≥ 0) = c2 at rest
            generalize q3 : odec (n ≤ 4294967296) = c3 at rest
            have := rest c0 c1 c2 c3 rfl rfl rfl rfl
            clear rest
            simp only [jobberlaw21_MeterPlays_l6, ot (show (i : Int) < (l.length : Int) by omega), ot (show (i : Int) < 60 by omega), ot (show (0 : Int) ≤ (i : Int) by omega), cond_true, Int.toNat_natCast, el, Option.bind_some, cond_false, q0, q1, q2, q3, ha, odT, Bool.not_true, count21, o0, o1, o2, o3, show (0 : Int).toNat = 0 from rfl, show (1 : Int).toNat = 1 from rfl, show (2 : Int).toNat = 2 from rfl, show (3 : Int).toNat = 3 from rfl, List.getElem?_cons_zero, List.getElem?_cons_succ, intEq_self, Bool.and_self, Bool.and_true, e1]
            cases c0 <;> cases c1 <;> cases c2 <;> cases c3 <;> first | rfl | (simp at this)
      · left
        exact ⟨_, by simp only [jobberlaw21_MeterPlays_l6, ot (show (i : Int) < (l.length : Int) by omega), of_ (show ¬ (i : Int) < 60 by omega), cond_true, cond_false]; rfl, _, rfl⟩
    · left
      exact ⟨_, by simp only [jobberlaw21_MeterPlays_l6, of_ (show ¬ (i : Int) < (l.length : Int) by omega), cond_false]; rfl, _, rfl⟩)
  obtain ⟨r, hr, X, rfl⟩ := key ((l, (), (), 0, ()), ((mt fun _ => 0, ()), [0, 0, 0, 0], ())) ⟨0, fun _ => 0, rfl, by omega, fun _ => by show (0 : Int) ≤ 0 ∧ (0 : Int) ≤ _; omega⟩
  have h0 : List.replicate 4 (0 : Int) = [0, 0, 0, 0] := rfl
  simp only [jobberlaw21_MeterPlays, new21, Option.bind_some, h0, hr, jobberlaw21_MeterRuns.law]
def tot (l : List Ask) (x : Int) : Int := match l with
  | [] => 0
  | q :: l => cadd q.1 q.2.1 x + tot l x
theorem tot_app (x : Int) : ∀ a b : List Ask, tot (a ++ b) x = tot a x + tot b x
  | [], b => by simp [tot]
  | q :: a, b => by simp only [List.cons_append, tot, tot_app x a b]; omega
theorem tot_bd (x : Int) : ∀ a : List Ask, 0 ≤ tot a x ∧ tot a x ≤ (a.length : Int) * 4294967296
  | [] => by simp [tot]
  | q :: a => by
    have h1 := tot_bd x a
    have h2 := cadd_le q.1 q.2.1 x
    simp only [tot, List.length_cons]
    omega
theorem tot_cut (x : Int) {a : List Ask} {k : Nat} {q : Ask} (h : a[k]? = some q) : tot (a.take k ++ a.drop (k + 1)) x + cadd q.1 q.2.1 x = tot a x := by
  have hk : k < a.length := by
    rcases Nat.lt_or_ge k a.length with h' | h'
    · exact h'
    · rw [List.getElem?_eq_none h'] at h; cases h
  have e : a = a.take k ++ q :: a.drop (k + 1) := by
    have h1 := List.take_append_drop k a
    rw [List.drop_eq_getElem_cons hk] at h1
    rw [List.getElem?_eq_getElem hk] at h
    injection h with h
    rw [h] at h1
    exact h1.symm
  have e2 : tot a x = tot (a.take k) x + (cadd q.1 q.2.1 x + tot (a.drop (k + 1)) x) := by
    conv => lhs; rw [e, tot_app]
    rfl
  rw [tot_app, e2]
  omega
theorem order_a (l : List Ask) (order : List Int) : ∃ all : List Ask, all.length ≤ 30 ∧ loopFix jobberlaw21_MeterOrder_l6 ((l, order, (), (), (), (), 0, ()), ((mt fun _ => 0, ()), (mt fun _ => 0, ()), (mt fun _ => 0, ()), [], ())) = some ((order, (), (), (), all, ()), ((mt (tot all), ()), (mt fun _ => 0, ()), (mt fun _ => 0, ()), ())) := by
  have key := loop_ind (b := jobberlaw21_MeterOrder_l6) (fun d => ∃ (i : Nat) (a : List Ask), d = ((l, order, (), (), (), (), (i : Int), ()), ((mt (tot a), ()), (mt fun _ => 0, ()), (mt fun _ => 0, ()), a, ())) ∧ i ≤ 30 ∧ a.length ≤ i) (fun r => ∃ all : List Ask, all.length ≤ 30 ∧ r = ((order, (), (), (), all, ()), ((mt (tot all), ()), (mt fun _ => 0, ()), (mt fun _ => 0, ()), ()))) (fun d => 30 - d.1.2.2.2.2.2.2.1.toNat) (by
    rintro d ⟨i, a, rfl, hi, ha⟩
    by_cases h1 : i < l.length
    · by_cases h2 : i < 30
      · right
        have el := List.getElem?_eq_getElem h1
        generalize l[i] = q at el
        have e1 : wr .i64 ((i : Int) + 1) = ((i + 1 : Nat) : Int) := by rw [wr64 (by omega) (by omega)]; omega
        have hadd := add21 (tot a) (fun x => by have := tot_bd x a; omega) q.1 q.2.1
        have e2 : odec (((a.length + ([(q.1, q.2.1, q.2.2.1, ())] : List Ask).length : Nat) : Int) * ((24 : Nat) : Int) ≤ (room : Nat)) = true := ot (by rw [roomI]; simp only [List.length_cons, List.length_nil]; omega)
        have e3 : (fun x => tot a x + cadd q.1 q.2.1 x) = tot (a ++ [q]) := by funext x; rw [tot_app]; simp [tot]
        rw [e3] at hadd
        refine ⟨((l, order, (), (), (), (), ((i + 1 : Nat) : Int), ()), ((mt (tot (a ++ [q])), ()), (mt fun _ => 0, ()), (mt fun _ => 0, ()), a ++ [q], ())), ?_, ⟨i + 1, a ++ [q], rfl, by omega, by simp; omega⟩, by simp only; omega⟩
        simp only [jobberlaw21_MeterOrder_l6, ot (show (i : Int) < (l.length : Int) by omega), ot (show (i : Int) < 30 by omega), ot (show (0 : Int) ≤ (i : Int) by omega), cond_true, Int.toNat_natCast, el, Option.bind_some, hadd, e2, e1]
      · left
        exact ⟨_, by simp only [jobberlaw21_MeterOrder_l6, ot (show (i : Int) < (l.length : Int) by omega), of_ (show ¬ (i : Int) < 30 by omega), cond_true, cond_false], a, by omega, rfl⟩
    · left
      exact ⟨_, by simp only [jobberlaw21_MeterOrder_l6, of_ (show ¬ (i : Int) < (l.length : Int) by omega), cond_false], a, by omega, rfl⟩)
  obtain ⟨r, hr, all, h1, rfl⟩ := key ((l, order, (), (), (), (), 0, ()), ((mt fun _ => 0, ()), (mt fun _ => 0, ()), (mt fun _ => 0, ()), [], ())) ⟨0, [], rfl, by omega, by simp⟩
  exact ⟨all, h1, hr⟩
theorem order_b (F : Int → Int) (order : List Int) (ho : ∀ x ∈ order, Rng (.int .i64) x) (all : List Ask) (hall : all.length ≤ 30) : loopFix jobberlaw21_MeterOrder_l11 ((order, (), (), (), all, 0, ()), ((mt F, ()), (mt fun _ => 0, ()), (mt fun _ => 0, ()), ())) = some (((), (), (), ()), ((mt F, ()), (mt (tot all), ()), (mt fun _ => 0, ()), ())) := by
  have key := loop_ind (b := jobberlaw21_MeterOrder_l11) (fun d => ∃ (i : Nat) (a : List Ask) (g : Int → Int), d = ((order, (), (), (), a, (i : Int), ()), ((mt F, ()), (mt g, ()), (mt fun _ => 0, ()), ())) ∧ i + a.length ≤ 60 ∧ a.length ≤ 30 ∧ (∀ x, 0 ≤ g x) ∧ ∀ x, g x + tot a x = tot all x) (fun r => r = (((), (), (), ()), ((mt F, ()), (mt (tot all), ()), (mt fun _ => 0, ()), ()))) (fun d => d.1.2.2.2.2.1.length) (by
    rintro d ⟨i, a, g, rfl, hi, ha, hg, ht⟩
    by_cases h0 : a.length = 0
    · left
      have h0 := List.eq_nil_of_length_eq_zero h0
      subst h0
      have : g = tot all := by funext x; have := ht x; simp only [tot] at this; omega
      subst this
      exact ⟨_, by simp only [jobberlaw21_MeterOrder_l11, of_ (show ¬ (([] : List Ask).length : Int) > 0 by simp), cond_false], rfl⟩
    · right
      have e1 : wr .i64 ((i : Int) + 1) = ((i + 1 : Nat) : Int) := by rw [wr64 (by omega) (by omega)]; omega
      have step : ∀ k : Nat, k < a.length → ∃ q, a[k]? = some q ∧ meter_Meter_Add (((), q.1, q.2.1, ()), ((mt g, ()), ())) = some ((ans g q.1 q.2.1, ()), ((mt fun x => g x + cadd q.1 q.2.1 x, ()), ())) ∧ (∀ x, 0 ≤ g x + cadd q.1 q.2.1 x) ∧ (∀ x, (g x + cadd q.1 q.2.1 x) + tot (a.take k ++ a.drop (k + 1)) x = tot all x) := by
        intro k hk
        have hq := List.getElem?_eq_getElem hk
        refine ⟨a[k], hq, add21 g (fun x => ?_) _ _, fun x => ?_, fun x => ?_⟩
        · have := ht x; have := tot_bd x all; have := tot_bd x a; have := hg x; omega
        · have := hg x; have := cadd_le a[k].1 a[k].2.1 x; omega
        · have := ht x; have := tot_cut x hq; omega
      by_cases hio : i < order.length
      · have eo := List.getElem?_eq_getElem hio
        have hx := ho _ (List.getElem_mem hio)
        generalize order[i] = x at eo hx
        have e2 : wr .i64 ((a.length : Int) - 1) = (a.length : Int) - 1 := wr64 (by omega) (by omega)
        obtain ⟨r, r0, r1, rw_⟩ := within21 (v := x) (lo := 0) (hi := (a.length : Int) - 1) (rng64 hx) (by omega) (by omega) (by omega) (by omega)
        obtain ⟨k, rfl⟩ : ∃ k : Nat, r = (k : Int) := ⟨r.toNat, by omega⟩
        obtain ⟨q, g1, g2, g3, g4⟩ := step k (by omega)
        have e3 : wr .i64 ((k : Int) + 1) = ((k + 1 : Nat) : Int) := by rw [wr64 (by omega) (by omega)]; omega
        have e4 : odec (0 ≤ (0 : Int) ∧ (0 : Int) ≤ (k : Int) ∧ (k : Int) ≤ (a.length : Int)) = true := ot (by omega)
        have e5 : odec (((([] : List Ask).length + (a.take k).length : Nat) : Int) * ((24 : Nat) : Int) ≤ (room : Nat)) = true := ot (by rw [roomI]; simp only [List.length_nil, List.length_take]; omega)
        have e6 : odec (0 ≤ ((k + 1 : Nat) : Int) ∧ ((k + 1 : Nat) : Int) ≤ (a.length : Int) ∧ (a.length : Int) ≤ (a.length : Int)) = true := ot (by omega)
        have e7 : odec ((((a.take k).length + (a.drop (k + 1)).length : Nat) : Int) * ((24 : Nat) : Int) ≤ (room : Nat)) = true := ot (by rw [roomI]; simp only [List.length_take, List.length_drop]; omega)
        refine ⟨((order, (), (), (), a.take k ++ a.drop (k + 1), ((i + 1 : Nat) : Int), ()), ((mt F, ()), (mt fun x => g x + cadd q.1 q.2.1 x, ()), (mt fun _ => 0, ()), ())), ?_, ⟨i + 1, _, _, rfl, by simp only [List.length_append, List.length_take, List.length_drop]; omega, by simp only [List.length_append, List.length_take, List.length_drop]; omega, g3, g4⟩, by simp only [List.length_append, List.length_take, List.length_drop]; omega⟩
        simp only [jobberlaw21_MeterOrder_l11, ot (show (a.length : Int) > 0 by omega), cond_true, ot (show (i : Int) < (order.length : Int) by omega), ot (show (0 : Int) ≤ (i : Int) by omega), Int.toNat_natCast, eo, Option.bind_some, e2, rw_, ot (show (0 : Int) ≤ (k : Int) by omega), g1, g2, e3, e4, e5, e6, List.nil_append, e7, e1]
      · obtain ⟨q, g1, g2, g3, g4⟩ := step 0 (by omega)
        have e3 : wr .i64 (0 + 1) = ((0 + 1 : Nat) : Int) := wr01
        have e4 : odec (0 ≤ (0 : Int) ∧ (0 : Int) ≤ (0 : Int) ∧ (0 : Int) ≤ (a.length : Int)) = true := ot (by omega)
        have e5 : odec (((([] : List Ask).length + (a.take 0).length : Nat) : Int) * ((24 : Nat) : Int) ≤ (room : Nat)) = true := ot (by rw [roomI]; simp)
        have e6 : odec (0 ≤ ((0 + 1 : Nat) : Int) ∧ ((0 + 1 : Nat) : Int) ≤ (a.length : Int) ∧ (a.length : Int) ≤ (a.length : Int)) = true := ot (by omega)
        have e7 : odec ((((a.take 0).length + (a.drop (0 + 1)).length : Nat) : Int) * ((24 : Nat) : Int) ≤ (room : Nat)) = true := ot (by rw [roomI]; simp only [List.length_take, List.length_drop]; omega)
        refine ⟨((order, (), (), (), a.take 0 ++ a.drop (0 + 1), ((i + 1 : Nat) : Int), ()), ((mt F, ()), (mt fun x => g x + cadd q.1 q.2.1 x, ()), (mt fun _ => 0, ()), ())), ?_, ⟨i + 1, _, _, rfl, by simp only [List.length_append, List.length_take, List.length_drop]; omega, by simp only [List.length_append, List.length_take, List.length_drop]; omega, g3, g4⟩, by simp only [List.length_append, List.length_take, List.length_drop]; omega⟩
        simp only [jobberlaw21_MeterOrder_l11, ot (show (a.length : Int) > 0 by omega), cond_true, of_ (show ¬ (i : Int) < (order.length : Int) by omega), cond_false, ot (show (0 : Int) ≤ 0 by omega), show (0 : Int).toNat = 0 from rfl, g1, Option.bind_some, g2, e3, e4, e5, e6, Int.toNat_natCast, List.nil_append, e7, e1])
  obtain ⟨r, hr, rfl⟩ := key ((order, (), (), (), all, 0, ()), ((mt F, ()), (mt fun _ => 0, ()), (mt fun _ => 0, ()), ())) ⟨0, all, fun _ => 0, rfl, by omega, hall, fun _ => Int.le_refl 0, fun x => Int.zero_add _⟩
  exact hr
theorem jobberlaw21_MeterOrder.law0 (l : List Ask) (order : List Int) (ho : ∀ x ∈ order, Rng (.int .i64) x) : jobberlaw21_MeterOrder ((l, order, ()), ()) = some ((true, ()), ()) := by
  obtain ⟨all, h1, h2⟩ := order_a l order
  have h3 := order_b (tot all) order ho all h1
  simp only [jobberlaw21_MeterOrder, new21, Option.bind_some, h2, h3, count21, intEq_self, Bool.and_self, Bool.and_true, cond_true, jobberlaw21_MeterRuns.law]
theorem jobberlaw21_MeterEach.law0 (what n k : Int) (hwh : Rng (.int .i64) what) (hn : Rng (.int .i64) n) (hk : Rng (.int .i64) k) : jobberlaw21_MeterEach ((what, n, k, ()), ()) = some ((true, ()), ()) := by
  obtain ⟨w, w0, w1, ww⟩ := within21 (v := what) (lo := 0) (hi := 3) (rng64 hwh) (by omega) (by omega) (by omega) (by omega)
  obtain ⟨m, m0, m1, mw⟩ := within21 (v := n) (lo := 0) (hi := 50) (rng64 hn) (by omega) (by omega) (by omega) (by omega)
  obtain ⟨q, q0, q1, qw⟩ := within21 (v := k) (lo := 0) (hi := 9) (rng64 hk) (by omega) (by omega) (by omega) (by omega)
  have key := loop_ind (b := jobberlaw21_MeterEach_l6) (fun d => ∃ (i : Nat), d = ((k, (), (), w, m, (i : Int), ()), ((mt fun x => if x = w then (i : Int) else 0, ()), (mt fun _ => 0, ()), ())) ∧ (i : Int) ≤ m) (fun r => r = .inr ((k, (), (), w, m, ()), ((mt fun x => if x = w then m else 0, ()), (mt fun _ => 0, ()), ()))) (fun d => 50 - d.1.2.2.2.2.2.1.toNat) (by
    rintro d ⟨i, rfl, hi⟩
    by_cases h1 : (i : Int) < m
    · right
      have e1 : wr .i64 ((i : Int) + 1) = ((i + 1 : Nat) : Int) := by rw [wr64 (by omega) (by omega)]; omega
      have ha := add21 (fun x => if x = w then (i : Int) else 0) (fun x => by simp only; split <;> omega) w 1
      have hans : ans (fun x => if x = w then (i : Int) else 0) w 1 = ((i + 1 : Nat) : Int) := by rw [ans, if_pos (by omega), if_pos rfl]; omega
      have hm : (fun x => (if x = w then (i : Int) else 0) + cadd w 1 x) = fun x => if x = w then ((i + 1 : Nat) : Int) else 0 := by
        funext x
        by_cases hx : x = w
        · rw [if_pos hx, if_pos hx, cadd, if_pos (by omega)]; omega
        · rw [if_neg hx, if_neg hx, cadd, if_neg (by omega)]; rfl
      rw [hans, hm] at ha
      refine ⟨((k, (), (), w, m, ((i + 1 : Nat) : Int), ()), ((mt fun x => if x = w then ((i + 1 : Nat) : Int) else 0, ()), (mt fun _ => 0, ()), ())), ?_, ⟨i + 1, rfl, by omega⟩, by simp only; omega⟩
      simp only [jobberlaw21_MeterEach_l6, ot h1, cond_true, ha, Option.bind_some, e1, odT, Bool.not_true, cond_false]
    · left
      have : (i : Int) = m := by omega
      subst this
      exact ⟨_, by simp only [jobberlaw21_MeterEach_l6, of_ h1, cond_false], rfl⟩)
  have hz : (mt fun _ => 0) = mt fun x => if x = w then ((0 : Nat) : Int) else 0 := by
    have : (fun x : Int => if x = w then ((0 : Nat) : Int) else 0) = fun _ => (0 : Int) := by funext x; split <;> rfl
    rw [this]
  obtain ⟨r, hr, rfl⟩ := key ((k, (), (), w, m, ((0 : Nat) : Int), ()), ((mt fun x => if x = w then ((0 : Nat) : Int) else 0, ()), (mt fun _ => 0, ()), ())) ⟨0, rfl, by omega⟩
  rw [← hz] at hr
  change loopFix _ ((k, (), (), w, m, 0, ()), ((mt fun _ => 0, ()), (mt fun _ => 0, ()), ())) = _ at hr
  have hb := add21 (fun _ => 0) zero_smC w m
  have hbm : (fun x => (fun _ => (0 : Int)) x + cadd w m x) = fun x => if x = w then m else 0 := by
    funext x
    show 0 + cadd w m x = _
    by_cases hx : x = w
    · rw [if_pos hx, cadd, if_pos (by omega)]; omega
    · rw [if_neg hx, cadd, if_neg (by omega)]; rfl
  replace hb : meter_Meter_Add (((), w, m, ()), ((mt fun _ => 0, ()), ())) = some ((ans (fun _ => 0) w m, ()), ((mt fun x => if x = w then m else 0, ()), ())) := by rw [← hbm]; exact hb
  have hsm : SmC fun x => if x = w then m else 0 := fun x => by simp only; split <;> omega
  have no : ∀ v, ¬ (0 ≤ v ∧ v < 4) → meter_Meter_Add (((), v, 1, ()), ((mt fun x => if x = w then m else 0, ()), ())) = some ((0, ()), ((mt fun x => if x = w then m else 0, ()), ())) := by
    intro v hv
    have h := add21 _ hsm v 1
    have e1 : ans (fun x => if x = w then m else 0) v 1 = 0 := by rw [ans, if_neg (by omega)]
    rw [e1] at h
    have e2 : (mt fun x => (if x = w then m else 0) + cadd v 1 x) = mt fun x => if x = w then m else 0 := by
      have z : ∀ x, 0 ≤ x → x < 4 → cadd v 1 x = 0 := fun x h0 h1 => by rw [cadd, if_neg (by omega)]
      simp only [mt, z 0 (by omega) (by omega), z 1 (by omega) (by omega), z 2 (by omega) (by omega), z 3 (by omega) (by omega), Int.add_zero]
    rw [e2] at h
    exact h
  have e4 : wr .i64 (4 + q) = 4 + q := wr64 (by omega) (by omega)
  have n1 := no (4 + q) (by omega)
  have n2 := no (-1) (by omega)
  have hsum : wr .i64 (wr .i64 (wr .i64 ((if (0 : Int) = w then m else 0) + (if (1 : Int) = w then m else 0)) + (if (2 : Int) = w then m else 0)) + (if (3 : Int) = w then m else 0)) = m := by
    have h4 : w = 0 ∨ w = 1 ∨ w = 2 ∨ w = 3 := by omega
    have s1 : wr .i64 (m + 0) = m := by rw [wr64 (by omega) (by omega)]; omega
    have s2 : wr .i64 (0 + m) = m := by rw [wr64 (by omega) (by omega)]; omega
    have s3 : wr .i64 (0 + 0) = 0 := by rw [wr64 (by omega) (by omega)]; omega
    rcases h4 with rfl | rfl | rfl | rfl <;> simp [s1, s2, s3, show wr .i64 0 = 0 from wr64 (by omega) (by omega), -Int.add_zero, -Int.zero_add]
  simp only [jobberlaw21_MeterEach, new21, Option.bind_some, ww, mw, hr, hb, count21, intEq_self, Bool.and_self, Bool.and_true, cond_true, hsum, odT, qw, e4, n1, n2, jobberlaw21_MeterRuns.law]
theorem jobberlaw21_MeterPlays.law (l : List Ask) (h0 : Rng (.deep (.cons (.int .i64) (.cons (.int .i64) (.cons .bool .nil)))) l) : jobberlaw21_MeterPlays ((l, ()), ()) = some ((true, ()), ()) := jobberlaw21_MeterPlays.law0 l
theorem jobberlaw21_MeterOrder.law (l : List Ask) (o : List Int) (h0 : Rng (.deep (.cons (.int .i64) (.cons (.int .i64) (.cons .bool .nil)))) l) (h1 : Rng (.deep (.int .i64)) o) : jobberlaw21_MeterOrder ((l, o, ()), ()) = some ((true, ()), ()) := jobberlaw21_MeterOrder.law0 l o h1.2
theorem jobberlaw21_MeterEach.law (a n k : Int) (h0 : Rng (.int .i64) a) (h1 : Rng (.int .i64) n) (h2 : Rng (.int .i64) k) : jobberlaw21_MeterEach ((a, n, k, ()), ()) = some ((true, ()), ()) := jobberlaw21_MeterEach.law0 a n k h0 h1 h2
end AM
