/- The laws of chapter 18, in plain Lean. -/
import Derived.Test.YtbnanlleikljeaaPrn
set_option linter.unusedVariables false
set_option linter.unusedSimpArgs false
namespace AM
open Go
theorem within18 {v lo hi : Int} (hv : -9223372036854775808 ≤ v ∧ v ≤ 9223372036854775807) (h0 : -4611686018427387904 ≤ lo) (h1 : lo ≤ hi) (h2 : hi ≤ 4611686018427387902) (h3 : hi - lo < 4611686018427387904) :
    ∃ r, lo ≤ r ∧ r ≤ hi ∧ jobberbook_Within ((v, lo, hi, ()), ()) = some ((r, ()), ()) := within_ok hv h0 h1 h2 h3
theorem locked18 (now t k w u : Int) : lock_Lock_Locked (((), now, ()), ((t, k, w, u, ()), ())) = some ((decide (w ≥ t ∧ now < u), ()), ((t, k, w, u, ()), ())) := by
  simp only [lock_Lock_Locked, odec_eq, Bool.cond_decide]
  by_cases h : w ≥ t <;> simp [h]
def fl (t k w u now : Int) : Int × Int := if w ≥ t ∧ now < u then (w, u) else if w ≥ t then (1, if 1 = t then now + k else u) else (w + 1, if w + 1 = t then now + k else u)
theorem failed18 {now t k w u : Int} (hw : -1000000000000000000 ≤ w ∧ w ≤ 1000000000000000000) (hn : -1000000000000000000 ≤ now ∧ now ≤ 1000000000000000000) (hk : -1000000000000000000 ≤ k ∧ k ≤ 1000000000000000000) :
    lock_Lock_Failed (((), now, ()), ((t, k, w, u, ()), ())) = some ((), ((t, k, (fl t k w u now).1, (fl t k w u now).2, ()), ())) := by
  have e1 : wr .i64 (0 + 1) = 1 := wr64 (by omega) (by omega)
  have e2 : wr .i64 (w + 1) = w + 1 := wr64 (by omega) (by omega)
  have e3 : wr .i64 (now + k) = now + k := wr64 (by omega) (by omega)
  simp only [lock_Lock_Failed, locked18, Option.bind_some, odec_eq, Bool.cond_decide, e1, e2, e3, fl]
  by_cases h1 : w ≥ t ∧ now < u
  · simp only [if_pos h1]
  · simp only [if_neg h1]
    by_cases h2 : w ≥ t
    · simp only [if_pos h2]
      by_cases h3 : 1 = t <;> simp [h3]
    · simp only [if_neg h2]
      by_cases h3 : w + 1 = t <;> simp [h3]
theorem wrong18 (t k w u : Int) : lock_Lock_Wrong (((), ()), ((t, k, w, u, ()), ())) = some ((w, ()), ((t, k, w, u, ()), ())) := rfl
theorem clear18 (t k w u : Int) : lock_Lock_Clear (((), ()), ((t, k, w, u, ()), ())) = some ((), ((t, k, 0, 0, ()), ())) := rfl
theorem new18 {t k : Int} (h1 : 1 ≤ t) (h2 : t ≤ 1048576) (h3 : 1 ≤ k) (h4 : k ≤ 1099511627776) : lock_New ((t, k, ()), ()) = some (.inr (((), 0, ()), ((t, k, 0, 0, ()), ()))) := by
  simp only [lock_New, odec_eq, Bool.cond_decide]
  rw [if_neg (by omega), if_neg (by omega), if_neg (by omega), if_neg (by omega)]
theorem jobberlaw18_LockRuns.law : jobberlaw18_LockRuns ((), ()) = some ((true, ()), ()) := by
  simp only [jobberlaw18_LockRuns, new18 (t := 2) (k := 10) (by omega) (by omega) (by omega) (by omega), Option.bind_some, odec_eq]
  simp [failed18, locked18, wrong18, fl]
theorem jobberlaw18_LockOnce.law (a0 : Int) (a1 : List Int) (h0 : Rng (.int .i64) a0) (h1 : Rng (.deep (.int .i64)) a1) : jobberlaw18_LockOnce ((a0, a1, ()), ()) = some ((true, ()), ()) := by
  obtain ⟨t, t1, t2, et⟩ := within18 (rng64 h0) (lo := 1) (hi := 60) (by omega) (by omega) (by omega) (by omega)
  have hq : ∀ x ∈ a1, -9223372036854775808 ≤ x ∧ x ≤ 9223372036854775807 := h1.2
  simp only [jobberlaw18_LockOnce, et, Option.bind_some, new18 (t := 1) (k := t) (by omega) (by omega) (by omega) (by omega), odec_eq]
  have key := loop_ind (b := jobberlaw18_LockOnce_l7) (fun d => ∃ now un i w, d = ((a1, t, (), now, un, i, ()), ((1, t, w, un, ()), ())) ∧ 0 ≤ i ∧ i ≤ 40 ∧ 0 ≤ now ∧ now ≤ 40 * i ∧ 0 ≤ un ∧ un ≤ 10000 ∧ ((w = 0 ∧ un = 0) ∨ w = 1)) (fun r => ∃ d, r = .inr d) (fun d => (40 - d.1.2.2.2.2.2.1).toNat) (by
    rintro d ⟨now, un, i, w, rfl, i0, i1, n0, n1, u0, u1, hw⟩
    simp only [jobberlaw18_LockOnce_l7, odec_eq, Bool.cond_decide]
    by_cases hi : i < (a1.length : Int)
    · rw [if_pos hi]
      by_cases h40 : i < 40
      · rw [if_pos h40, if_pos i0]
        obtain ⟨x, ex, hx⟩ := get_int i0 hi
        obtain ⟨s, s0, s1, es⟩ := within18 (hq x hx) (lo := 0) (hi := 40) (by omega) (by omega) (by omega) (by omega)
        have e1 : wr .i64 (now + s) = now + s := wr64 (by omega) (by omega)
        have e2 : wr .i64 (now + s + t) = now + s + t := wr64 (by omega) (by omega)
        have e3 : wr .i64 (i + 1) = i + 1 := wr64 (by omega) (by omega)
        simp only [ex, es, Option.bind_some, e1, e2, e3, locked18, wrong18, failed18 (now := now + s) (k := t) (w := w) (by omega) (by omega) (by omega)]
        right
        rcases hw with ⟨rfl, rfl⟩ | rfl
        · have hl : ¬ now + s < 0 := by omega
          have hg : now + s ≥ 0 := by omega
          have hp : now + s < now + s + t := by omega
          simp only [fl, hl, hg, boolEq, decide_false, and_false, false_and, if_false, beq_self_eq_true, Bool.not_true, if_true, ge_iff_le, show ¬ (1 : Int) ≤ 0 by omega, hp, Int.le_refl, and_self, decide_true, Int.zero_add, Bool.false_eq_true, cond_false, not_true_eq_false]
          exact ⟨_, rfl, ⟨_, _, _, _, rfl, by omega, by omega, by omega, by omega, by omega, by omega, .inr rfl⟩, by simp only; omega⟩
        · by_cases hl : now + s < un
          · have hg : ¬ un ≤ now + s := by omega
            simp only [fl, hl, hg, boolEq, decide_true, and_true, ge_iff_le, Int.le_refl, if_true, beq_self_eq_true, Bool.not_true, cond_false, if_false, not_true_eq_false]
            exact ⟨_, rfl, ⟨_, _, _, _, rfl, by omega, by omega, by omega, by omega, by omega, by omega, .inr rfl⟩, by simp only; omega⟩
          · have hg : un ≤ now + s := by omega
            have hp : now + s < now + s + t := by omega
            simp only [fl, hl, hg, hp, boolEq, decide_false, and_false, ge_iff_le, Int.le_refl, if_true, beq_self_eq_true, Bool.not_true, cond_false, if_false, and_self, decide_true, not_true_eq_false]
            exact ⟨_, rfl, ⟨_, _, _, _, rfl, by omega, by omega, by omega, by omega, by omega, by omega, .inr rfl⟩, by simp only; omega⟩
      · rw [if_neg h40]; exact .inl ⟨_, rfl, _, rfl⟩
    · rw [if_neg hi]; exact .inl ⟨_, rfl, _, rfl⟩)
  obtain ⟨r, hr, d, rfl⟩ := key ((a1, t, (), 0, 0, 0, ()), ((1, t, 0, 0, ()), ())) ⟨0, 0, 0, 0, rfl, by omega, by omega, by omega, by omega, by omega, by omega, .inl ⟨rfl, rfl⟩⟩
  simp [hr, jobberlaw18_LockRuns.law]
end AM
