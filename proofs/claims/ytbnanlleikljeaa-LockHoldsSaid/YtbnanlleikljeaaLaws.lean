/- The laws of chapter 18, in plain Lean. -/
import Derived.Test.YtbnanlleikljeaaPrn
set_option linter.unusedVariables false
set_option linter.unusedSimpArgs false
namespace AM
open Go
theorem within18 {v lo hi : Int} (hv : -9223372036854775808 ≤ v ∧ v ≤ 9223372036854775807) (h0 : -4611686018427387904 ≤ lo) (h1 : lo ≤ hi) (h2 : hi ≤ 4611686018427387902) (h3 : hi - lo < 4611686018427387904) :
    ∃ r, lo ≤ r ∧ r ≤ hi ∧ jobberbook_Within ((v, lo, hi, ()), ()) = some ((r, ()), ()) := within_ok hv h0 h1 h2 h3
theorem locked18 (now t k w u : Int) : lock_Lock_Locked (((), now, ()), ((t, k, w, u, ()), ())) = some ((decide (w ≥ t ∧ now < u), ()), ((t, k, w, u, ()), ())) := by
  simp only [lock_Lock_Locked, odec_eq, Bool.cond_decide]
  by_cases h : w ≥ t <;> simp [h]
def fl (t k w u now : Int) : Int × Int := if w ≥ t ∧ now < u then (w, u) else if w ≥ t then (1, if 1 = t then now + k else u) else (w + 1, if w + 1 = t then now + k else u)
theorem failed18 {now t k w u : Int} (hw : -1000000000000000000 ≤ w ∧ w ≤ 1000000000000000000) (hn : -1000000000000000000 ≤ now ∧ now ≤ 1000000000000000000) (hk : -1000000000000000000 ≤ k ∧ k ≤ 1000000000000000000) :
    lock_Lock_Failed (((), now, ()), ((t, k, w, u, ()), ())) = some ((), ((t, k, (fl t k w u now).1, (fl t k w u now).2, ()), ())) := by
  have e1 : wr .i64 (0 + 1) = 1 := wr64 (by omega) (by omega)
  have e2 : wr .i64 (w + 1) = w + 1 := wr64 (by omega) (by omega)
  have e3 : wr .i64 (now + k) = now + k := wr64 (by omega) (by omega)
  simp only [lock_Lock_Failed, locked18, Option.bind_some, odec_eq, Bool.cond_decide, e1, e2, e3, fl]
  by_cases h1 : w ≥ t ∧ now < u
  · simp only [if_pos h1]
  · simp only [if_neg h1]
    by_cases h2 : w ≥ t
    · simp only [if_pos h2]
      by_cases h3 : 1 = t <;> simp [h3]
    · simp only [if_neg h2]
      by_cases h3 : w + 1 = t <;> simp [h3]
theorem wrong18 (t k w u : Int) : lock_Lock_Wrong (((), ()), ((t, k, w, u, ()), ())) = some ((w, ()), ((t, k, w, u, ()), ())) := rfl
theorem clear18 (t k w u : Int) : lock_Lock_Clear (((), ()), ((t, k, w, u, ()), ())) = some ((), ((t, k, 0, 0, ()), ())) := rfl
theorem new18 {t k : Int} (h1 : 1 ≤ t) (h2 : t ≤ 1048576) (h3 : 1 ≤ k) (h4 : k ≤ 1099511627776) : lock_New ((t, k, ()), ()) = some (.inr (((), 0, ()), ((t, k, 0, 0, ()), ()))) := by
  simp only [lock_New, odec_eq, Bool.cond_decide]
  rw [if_neg (by omega), if_neg (by omega), if_neg (by omega), if_neg (by omega)]
theorem jobberlaw18_LockRuns.law : jobberlaw18_LockRuns ((), ()) = some ((true, ()), ()) := by
  simp only [jobberlaw18_LockRuns, new18 (t := 2) (k := 10) (by omega) (by omega) (by omega) (by omega), Option.bind_some, odec_eq]
  simp [failed18, locked18, wrong18, fl]
theorem jobberlaw18_LockOnce.law (a0 : Int) (a1 : List Int) (h0 : Rng (.int .i64) a0) (h1 : Rng (.deep (.int .i64)) a1) : jobberlaw18_LockOnce ((a0, a1, ()), ()) = some ((true, ()), ()) := by
  obtain ⟨t, t1, t2, et⟩ := within18 (rng64 h0) (lo := 1) (hi := 60) (by omega) (by omega) (by omega) (by omega)
  have hq : ∀ x ∈ a1, -9223372036854775808 ≤ x ∧ x ≤ 9223372036854775807 := h1.2
  simp only [jobberlaw18_LockOnce, et, Option.bind_some, new18 (t := 1) (k := t) (by omega) (by omega) (by omega) (by omega), odec_eq]
  have key := loop_ind (b := jobberlaw18_LockOnce_l7) (fun d => ∃ now un i w, d = ((a1, t, (), now, un, i, ()), ((1, t, w, un, ()), ())) ∧ 0 ≤ i ∧ i ≤ 40 ∧ 0 ≤ now ∧ now ≤ 40 * i ∧ 0 ≤ un ∧ un ≤ 10000 ∧ ((w = 0 ∧ un = 0) ∨ w = 1)) (fun r => ∃ d, r = .inr d) (fun d => (40 - d.1.2.2.2.2.2.1).toNat) (by
    rintro d ⟨now, un, i, w, rfl, i0, i1, n0, n1, u0, u1, hw⟩
    simp only [jobberlaw18_LockOnce_l7, odec_eq, Bool.cond_decide]
    by_cases hi : i < (a1.length : Int)
    · rw [if_pos hi]
      by_cases h40 : i < 40
      · rw [if_pos h40, if_pos i0]
        obtain ⟨x, ex, hx⟩ := get_int i0 hi
        obtain ⟨s, s0, s1, es⟩ := within18 (hq x hx) (lo := 0) (hi := 40) (by omega) (by omega) (by omega) (by omega)
        have e1 : wr .i64 (now + s) = now + s := wr64 (by omega) (by omega)
        have e2 : wr .i64 (now + s + t) = now + s + t := wr64 (by omega) (by omega)
        have e3 : wr .i64 (i + 1) = i + 1 := wr64 (by omega) (by omega)
        simp only [ex, es, Option.bind_some, e1, e2, e3, locked18, wrong18, failed18 (now := now + s) (k := t) (w := w) (by omega) (by omega) (by omega)]
        right
        rcases hw with ⟨rfl, rfl⟩ | rfl
        · have hl : ¬ now + s < 0 := by omega
          have hg : now + s ≥ 0 := by omega
          have hp : now + s < now + s + t := by omega
          simp only [fl, hl, hg, boolEq, decide_false, and_false, false_and, if_false, beq_self_eq_true, Bool.not_true, if_true, ge_iff_le, show ¬ (1 : Int) ≤ 0 by omega, hp, Int.le_refl, and_self, decide_true, Int.zero_add, Bool.false_eq_true, cond_false, not_true_eq_false]
          exact ⟨_, rfl, ⟨_, _, _, _, rfl, by omega, by omega, by omega, by omega, by omega, by omega, .inr rfl⟩, by simp only; omega⟩
        · by_cases hl : now + s < un
          · have hg : ¬ un ≤ now + s := by omega
            simp only [fl, hl, hg, boolEq, decide_true, and_true, ge_iff_le, Int.le_refl, if_true, beq_self_eq_true, Bool.not_true, cond_false, if_false, not_true_eq_false]
            exact ⟨_, rfl, ⟨_, _, _, _, rfl, by omega, by omega, by omega, by omega, by omega, by omega, .inr rfl⟩, by simp only; omega⟩
          · have hg : un ≤ now + s := by omega
            have hp : now + s < now + s + t := by omega
            simp only [fl, hl, hg, hp, boolEq, decide_false, and_false, ge_iff_le, Int.le_refl, if_true, beq_self_eq_true, Bool.not_true, cond_false, if_false, and_self, decide_true, not_true_eq_false]
            exact ⟨_, rfl, ⟨_, _, _, _, rfl, by omega, by omega, by omega, by omega, by omega, by omega, .inr rfl⟩, by simp only; omega⟩
      · rw [if_neg h40]; exact .inl ⟨_, rfl, _, rfl⟩
    · rw [if_neg hi]; exact .inl ⟨_, rfl, _, rfl⟩)
  obtain ⟨r, hr, d, rfl⟩ := key ((a1, t, (), 0, 0, 0, ()), ((1, t, 0, 0, ()), ())) ⟨0, 0, 0, 0, rfl, by omega, by omega, by omega, by omega, by omega, by omega, .inl ⟨rfl, rfl⟩⟩
  simp [hr, jobberlaw18_LockRuns.law]

theorem cond_not' {β : Type} (b : Bool) (x y : β) : (bif !b then x else y) = (bif b then y else x) := by cases b <;> rfl
theorem boolEq_dec (p q : Prop) [Decidable p] [Decidable q] : boolEq (decide p) (decide q) = decide (p ↔ q) := by
  by_cases hp : p <;> by_cases hq : q <;> simp [boolEq, hp, hq]
/-- a wrong answer, as it may go -/
theorem fail18 {now t k w u : Int} (hw : -1000000000000000000 ≤ w ∧ w ≤ 1000000000000000000) (hn : -1000000000000000000 ≤ now ∧ now ≤ 1000000000000000000) (hk : -1000000000000000000 ≤ k ∧ k ≤ 1000000000000000000) :
    ∃ w' u', lock_Lock_Failed (((), now, ()), ((t, k, w, u, ()), ())) = some ((), ((t, k, w', u', ()), ())) ∧
      ((w ≥ t ∧ now < u ∧ w' = w ∧ u' = u) ∨ (w ≥ t ∧ u ≤ now ∧ w' = 1 ∧ ((t = 1 ∧ u' = now + k) ∨ (t ≠ 1 ∧ u' = u))) ∨ (w < t ∧ w' = w + 1 ∧ ((w + 1 = t ∧ u' = now + k) ∨ (w + 1 ≠ t ∧ u' = u)))) := by
  refine ⟨_, _, failed18 hw hn hk, ?_⟩
  unfold fl
  split
  · rename_i h; exact .inl ⟨h.1, h.2, rfl, rfl⟩
  · rename_i h
    split
    · rename_i h2
      refine .inr (.inl ⟨h2, by omega, rfl, ?_⟩)
      split
      · exact .inl ⟨by omega, rfl⟩
      · exact .inr ⟨by omega, rfl⟩
    · rename_i h2
      refine .inr (.inr ⟨by omega, rfl, ?_⟩)
      split
      · exact .inl ⟨by assumption, rfl⟩
      · exact .inr ⟨by assumption, rfl⟩
theorem jobberlaw18_LockTwins.law (a0 a1 : Int) (a2 : List Int) (h0 : Rng (.int .i64) a0) (h1 : Rng (.int .i64) a1) (h2 : Rng (.deep (.int .i64)) a2) : jobberlaw18_LockTwins ((a0, a1, a2, ()), ()) = some ((true, ()), ()) := by
  obtain ⟨n, n1, n2, en⟩ := within18 (rng64 h0) (lo := 2) (hi := 6) (by omega) (by omega) (by omega) (by omega)
  obtain ⟨t, t1, t2, et⟩ := within18 (rng64 h1) (lo := 1) (hi := 40) (by omega) (by omega) (by omega) (by omega)
  have hq : ∀ x ∈ a2, -9223372036854775808 ≤ x ∧ x ≤ 9223372036854775807 := h2.2
  simp only [jobberlaw18_LockTwins, en, et, Option.bind_some, new18 (t := n) (k := t) (by omega) (by omega) (by omega) (by omega), odec_eq]
  have key := loop_ind (b := jobberlaw18_LockTwins_l8) (fun d => ∃ now i w u, d = ((a2, n, (), (), now, i, ()), ((n, t, w, u, ()), (n, t, 0, 0, ()), ())) ∧ 0 ≤ i ∧ i ≤ 30 ∧ 0 ≤ now ∧ now ≤ 9 * i ∧ 0 ≤ w ∧ w ≤ n - 2) (fun r => ∃ d, r = .inr d) (fun d => (30 - d.1.2.2.2.2.2.1).toNat) (by
    rintro d ⟨now, i, w, u, rfl, i0, i1, m0, m1, w0, w1⟩
    simp only [jobberlaw18_LockTwins_l8, odec_eq, Bool.cond_decide]
    by_cases hi : i < (a2.length : Int)
    · rw [if_pos hi]
      by_cases h40 : i < 30
      · rw [if_pos h40, if_pos i0]
        obtain ⟨x, ex, hx⟩ := get_int i0 hi
        obtain ⟨s, s0, s1, es⟩ := within18 (hq x hx) (lo := 0) (hi := 9) (by omega) (by omega) (by omega) (by omega)
        have e1 : wr .i64 (now + s) = now + s := wr64 (by omega) (by omega)
        have e2 : wr .i64 (n - 1) = n - 1 := wr64 (by omega) (by omega)
        have e3 : wr .i64 (i + 1) = i + 1 := wr64 (by omega) (by omega)
        obtain ⟨w', u', ef, hf⟩ := fail18 (now := now + s) (t := n) (k := t) (w := w) (u := u) (by omega) (by omega) (by omega)
        simp only [ex, es, Option.bind_some, e1, e2, e3, ef, locked18, wrong18, clear18, cond_not', odec_eq, Bool.cond_decide]
        right
        split
        · rw [if_neg (by omega), if_neg (by omega), if_pos trivial, if_neg (by omega)]
          exact ⟨_, rfl, ⟨_, _, _, _, rfl, by omega, by omega, by omega, by omega, by omega, by omega⟩, by simp only; omega⟩
        · rw [if_neg (by omega), if_neg (by omega), if_pos trivial, if_neg (by omega)]
          exact ⟨_, rfl, ⟨_, _, _, _, rfl, by omega, by omega, by omega, by omega, by omega, by omega⟩, by simp only; omega⟩
      · rw [if_neg h40]; exact .inl ⟨_, rfl, _, rfl⟩
    · rw [if_neg hi]; exact .inl ⟨_, rfl, _, rfl⟩)
  obtain ⟨r, hr, d, rfl⟩ := key ((a2, n, (), (), 0, 0, ()), ((n, t, 0, 0, ()), (n, t, 0, 0, ()), ())) ⟨0, 0, 0, 0, rfl, by omega, by omega, by omega, by omega, by omega, by omega⟩
  simp [hr, jobberlaw18_LockRuns.law]
theorem jobberlaw18_LockHolds.law (a0 a1 a2 : Int) (a3 : List Int) (h0 : Rng (.int .i64) a0) (h1 : Rng (.int .i64) a1) (h2 : Rng (.int .i64) a2) (h3 : Rng (.deep (.int .i64)) a3) : jobberlaw18_LockHolds ((a0, a1, a2, a3, ()), ()) = some ((true, ()), ()) := by
  obtain ⟨n, n1, n2, en⟩ := within18 (rng64 h0) (lo := 1) (hi := 6) (by omega) (by omega) (by omega) (by omega)
  obtain ⟨t, t1, t2, et⟩ := within18 (rng64 h1) (lo := 1) (hi := 50) (by omega) (by omega) (by omega) (by omega)
  obtain ⟨now, m1, m2, em⟩ := within18 (rng64 h2) (lo := 0) (hi := 100) (by omega) (by omega) (by omega) (by omega)
  have hq : ∀ x ∈ a3, -9223372036854775808 ≤ x ∧ x ≤ 9223372036854775807 := h3.2
  simp only [jobberlaw18_LockHolds, en, et, em, Option.bind_some, new18 (t := n) (k := t) (by omega) (by omega) (by omega) (by omega), odec_eq]
  have key := loop_ind (b := jobberlaw18_LockHolds_l6) (fun d => ∃ i u, d = ((a3, n, t, now, (), i, ()), ((n, t, i, u, ()), ())) ∧ 0 ≤ i ∧ i ≤ n ∧ (i = n → u = now + t)) (fun r => r = .inr ((a3, n, t, now, (), ()), ((n, t, n, now + t, ()), ()))) (fun d => (n - d.1.2.2.2.2.2.1).toNat) (by
    rintro d ⟨i, u, rfl, i0, i1, hu⟩
    simp only [jobberlaw18_LockHolds_l6, odec_eq, Bool.cond_decide]
    by_cases hi : i < n
    · rw [if_pos hi]
      have e3 : wr .i64 (i + 1) = i + 1 := wr64 (by omega) (by omega)
      obtain ⟨w', u', ef, hf⟩ := fail18 (now := now) (t := n) (k := t) (w := i) (u := u) (by omega) (by omega) (by omega)
      simp only [Option.bind_some, e3, ef, locked18, wrong18, cond_not', odec_eq, Bool.cond_decide]
      right
      rw [if_neg (by omega), if_pos trivial]
      obtain rfl : w' = i + 1 := by omega
      exact ⟨_, rfl, ⟨_, _, rfl, by omega, by omega, by omega⟩, by simp only; omega⟩
    · rw [if_neg hi]
      obtain rfl : i = n := by omega
      obtain rfl := hu rfl
      exact .inl ⟨_, rfl, rfl⟩)
  obtain ⟨r, hr, rfl⟩ := key ((a3, n, t, now, (), 0, ()), ((n, t, 0, 0, ()), ())) ⟨0, 0, rfl, by omega, by omega, by omega⟩
  have key2 := loop_ind (b := jobberlaw18_LockHolds_l12) (fun d => ∃ i, d = ((a3, n, t, now, (), i, ()), ((n, t, n, now + t, ()), ())) ∧ 0 ≤ i ∧ i ≤ 20) (fun r => r = .inr ((t, now, (), ()), ((n, t, n, now + t, ()), ()))) (fun d => (20 - d.1.2.2.2.2.2.1).toNat) (by
    rintro d ⟨i, rfl, i0, i1⟩
    simp only [jobberlaw18_LockHolds_l12, odec_eq, Bool.cond_decide]
    by_cases hi : i < (a3.length : Int)
    · rw [if_pos hi]
      by_cases h40 : i < 20
      · rw [if_pos h40, if_pos i0]
        obtain ⟨x, ex, hx⟩ := get_int i0 hi
        have e0 : wr .i64 (t - 1) = t - 1 := wr64 (by omega) (by omega)
        obtain ⟨s, s0, s1, es⟩ := within18 (hq x hx) (lo := 0) (hi := t - 1) (by omega) (by omega) (by omega) (by omega)
        have e1 : wr .i64 (now + s) = now + s := wr64 (by omega) (by omega)
        have e3 : wr .i64 (i + 1) = i + 1 := wr64 (by omega) (by omega)
        obtain ⟨w', u', ef, hf⟩ := fail18 (now := now + s) (t := n) (k := t) (w := n) (u := now + t) (by omega) (by omega) (by omega)
        obtain rfl : w' = n := by omega
        obtain rfl : u' = now + t := by omega
        simp only [ex, e0, es, Option.bind_some, e1, e3, ef, locked18, wrong18, cond_not', odec_eq, Bool.cond_decide]
        right
        rw [if_pos (by omega), if_pos trivial]
        exact ⟨_, rfl, ⟨_, rfl, by omega, by omega⟩, by simp only; omega⟩
      · rw [if_neg h40]; exact .inl ⟨_, rfl, rfl⟩
    · rw [if_neg hi]; exact .inl ⟨_, rfl, rfl⟩)
  obtain ⟨r, hr2, rfl⟩ := key2 ((a3, n, t, now, (), 0, ()), ((n, t, n, now + t, ()), ())) ⟨0, rfl, by omega, by omega⟩
  have e4 : wr .i64 (now + t) = now + t := wr64 (by omega) (by omega)
  have e5 : wr .i64 (now + t - 1) = now + t - 1 := wr64 (by omega) (by omega)
  simp only [hr, hr2, Option.bind_some, e4, e5, locked18, wrong18, clear18, cond_not', odec_eq, Bool.cond_decide, jobberlaw18_LockRuns.law, if_true, Bool.not_true, cond_false]
  rw [if_neg (by omega), if_pos (by omega), if_neg (by omega)]
theorem refLocked18 (now t k w u : Int) : jobberref13_Lock_Locked (((), now, ()), ((t, k, w, u, ()), ())) = some ((decide (w ≥ t ∧ now < u), ()), ((t, k, w, u, ()), ())) := by
  simp only [jobberref13_Lock_Locked, odec_eq, Bool.cond_decide]
  by_cases h : w ≥ t <;> simp [h]
theorem refClear18 (t k w u : Int) : jobberref13_Lock_Clear (((), ()), ((t, k, w, u, ()), ())) = some ((), ((t, k, 0, 0, ()), ())) := rfl
theorem refFailed18 {now t k w u : Int} (ht : 1 ≤ t) (hwt : w ≤ t) (hw : -1000000000000000000 ≤ w ∧ w ≤ 1000000000000000000) (hn : -1000000000000000000 ≤ now ∧ now ≤ 1000000000000000000) (hk : -1000000000000000000 ≤ k ∧ k ≤ 1000000000000000000) :
    jobberref13_Lock_Failed (((), now, ()), ((t, k, w, u, ()), ())) = lock_Lock_Failed (((), now, ()), ((t, k, w, u, ()), ())) := by
  rw [failed18 hw hn hk]
  have e1 : wr .i64 (0 + 1) = 1 := wr64 (by omega) (by omega)
  have e2 : wr .i64 (w + 1) = w + 1 := wr64 (by omega) (by omega)
  have e3 : wr .i64 (now + k) = now + k := wr64 (by omega) (by omega)
  simp only [jobberref13_Lock_Failed, refLocked18, Option.bind_some, odec_eq, Bool.cond_decide, e1, e2, e3, fl]
  by_cases h1 : w ≥ t ∧ now < u
  · simp only [if_pos h1]
  · simp only [if_neg h1]
    by_cases h2 : w ≥ t
    · simp only [if_pos h2]
      by_cases h3 : 1 = t
      · rw [if_pos (by omega), if_pos h3]
      · rw [if_neg (by omega), if_neg h3]
    · simp only [if_neg h2]
      by_cases h3 : w + 1 = t
      · rw [if_pos (by omega), if_pos h3]
      · rw [if_neg (by omega), if_neg h3]
theorem newSame18 (t k : Int) : jobberref13_NewLock ((t, k, ()), ()) = lock_New ((t, k, ()), ()) := rfl
theorem jobberlaw18_LockPlays.law (a0 a1 : Int) (a2 : List (Int × Int × Unit)) (h0 : Rng (.int .i64) a0) (h1 : Rng (.int .i64) a1) (h2 : Rng (.deep (.cons (.int .i64) (.cons (.int .i64) .nil))) a2) : jobberlaw18_LockPlays ((a0, a1, a2, ()), ()) = some ((true, ()), ()) := by
  have hq : ∀ x ∈ a2, -9223372036854775808 ≤ x.2.1 ∧ x.2.1 ≤ 9223372036854775807 := fun x hx => (h2.2 x hx).2.1
  by_cases hv : 1 ≤ a0 ∧ a0 ≤ 1048576 ∧ 1 ≤ a1 ∧ a1 ≤ 1099511627776
  · simp only [jobberlaw18_LockPlays, newSame18, Option.bind_some, new18 (t := a0) (k := a1) (by omega) (by omega) (by omega) (by omega), odec_eq]
    have key := loop_ind (b := jobberlaw18_LockPlays_l6b) (fun d => ∃ i w u, d = ((a2, (), (), i, ()), ((a0, a1, w, u, ()), (a0, a1, w, u, ()), ())) ∧ 0 ≤ i ∧ i ≤ 60 ∧ 0 ≤ w ∧ w ≤ a0) (fun r => ∃ d, r = .inr d) (fun d => (60 - d.1.2.2.2.1).toNat) (by
      rintro d ⟨i, w, u, rfl, i0, i1, w0, w1⟩
      simp only [jobberlaw18_LockPlays_l6b, odec_eq, Bool.cond_decide]
      by_cases hi : i < (a2.length : Int)
      · rw [if_pos hi]
        by_cases h40 : i < 60
        · rw [if_pos h40, if_pos i0]
          obtain ⟨x, ex, hx⟩ := get_int i0 hi
          obtain ⟨now, s0, s1, es⟩ := within18 (hq x hx) (lo := 0) (hi := 1099511627775) (by omega) (by omega) (by omega) (by omega)
          have e1 : wr .i64 (now + 1) = now + 1 := wr64 (by omega) (by omega)
          have e3 : wr .i64 (i + 1) = i + 1 := wr64 (by omega) (by omega)
          obtain ⟨w', u', ef, hf⟩ := fail18 (now := now) (t := a0) (k := a1) (w := w) (u := u) (by omega) (by omega) (by omega)
          have er := refFailed18 (now := now) (t := a0) (k := a1) (w := w) (u := u) (by omega) (by omega) (by omega) (by omega) (by omega)
          simp only [ex, es, if_pos i0, Option.bind_some, e1, e3, er, ef, locked18, refLocked18, wrong18, clear18, refClear18, cond_not', odec_eq, Bool.cond_decide, boolEq_dec, if_true]
          right
          split
          · exact ⟨_, rfl, ⟨_, _, _, rfl, by omega, by omega, by omega, by omega⟩, by simp only; omega⟩
          · split
            · exact ⟨_, rfl, ⟨_, _, _, rfl, by omega, by omega, by omega, by omega⟩, by simp only; omega⟩
            · exact ⟨_, rfl, ⟨_, _, _, rfl, by omega, by omega, by omega, by omega⟩, by simp only; omega⟩
        · rw [if_neg h40]; exact .inl ⟨_, rfl, _, rfl⟩
      · rw [if_neg hi]; exact .inl ⟨_, rfl, _, rfl⟩)
    obtain ⟨r, hr, d, rfl⟩ := key ((a2, (), (), 0, ()), ((a0, a1, 0, 0, ()), (a0, a1, 0, 0, ()), ())) ⟨0, 0, 0, rfl, by omega, by omega, by omega, by omega⟩
    simp [hr, jobberlaw18_LockRuns.law]
  · have hnew : lock_New ((a0, a1, ()), ()) = some (.inl (((), 1, ()), ())) := by
      simp only [lock_New, odec_eq, Bool.cond_decide]
      split
      · rfl
      · split
        · rfl
        · split
          · rfl
          · split
            · rfl
            · omega
    have hl : loopFix (L := (((List (Int × Int × Unit)) × Unit × Unit × Int × Unit) × (Unit))) jobberlaw18_LockPlays_l6 ((a2, (), (), 0, ()), ()) = some ((), ()) := by
      rw [loopFix_eq]
      simp only [jobberlaw18_LockPlays_l6, odec_eq, Bool.cond_decide]
      split
      · rename_i h; split at h
        · split at h <;> cases h
        · cases h
      · rename_i h; split at h
        · split at h <;> (cases h; rfl)
        · cases h; rfl
      · rename_i h; split at h
        · split at h <;> cases h
        · cases h
    simp [jobberlaw18_LockPlays, newSame18, hnew, hl, jobberlaw18_LockRuns.law, odec_eq]

/-- an element, or 0 -/
abbrev at0 (W : List Int) (j : Nat) : Int := W.getD j 0
theorem at0_append {W : List Int} {x : Int} {j : Nat} : at0 (W ++ [x]) j = if j < W.length then at0 W j else if j = W.length then x else 0 := by
  simp only [at0, List.getD_eq_getElem?_getD, List.getElem?_append]
  by_cases h : j < W.length
  · simp [h]
  · rw [if_neg h, if_neg h]
    by_cases h2 : j = W.length
    · simp [h2]
    · rw [if_neg h2, List.getElem?_eq_none (by simp; omega)]; rfl
theorem at0_get {W : List Int} {j : Nat} (h : j < W.length) : W[j]? = some (at0 W j) := by simp [at0, List.getD_eq_getElem?_getD, List.getElem?_eq_getElem h]
theorem spaced {W : List Int} {N : Nat} {t : Int} (hs : ∀ j, j + N < W.length → at0 W j + t ≤ at0 W (j + N)) : ∀ (c i : Nat), i + c * N < W.length → at0 W i + c * t ≤ at0 W (i + c * N)
  | 0, i, _ => by simp
  | c + 1, i, h => by
    rw [Nat.add_mul] at h
    have h1 := spaced hs c i (by omega)
    have h2 := hs (i + c * N) (by omega)
    have e : i + (c + 1) * N = i + c * N + N := by rw [Nat.add_mul]; omega
    rw [e]
    have e2 : ((c + 1 : Nat) : Int) * t = c * t + t := by rw [Int.natCast_add, Int.add_mul]; simp
    rw [e2]; omega
theorem bound18 {W : List Int} {N : Nat} {n t : Int} (hN : n = N) (hn : 1 ≤ N) (ht : 1 ≤ t) (hm : ∀ j k, j ≤ k → k < W.length → at0 W j ≤ at0 W k) (hs : ∀ j, j + N < W.length → at0 W j + t ≤ at0 W (j + N)) {i k : Nat} (hik : i ≤ k) (hk : k < W.length) :
    (k : Int) - i + 1 ≤ n * (Int.tdiv (at0 W k - at0 W i) t + 2) := by
  have hdiv : N * ((k - i) / N) ≤ k - i := Nat.mul_div_le _ _
  have hlt : k - i < N * ((k - i) / N + 1) := Nat.lt_mul_div_succ _ (by omega)
  generalize (k - i) / N = c at hdiv hlt
  have h1 := spaced hs c i (by rw [Nat.mul_comm]; omega)
  have h2 := hm (i + c * N) k (by rw [Nat.mul_comm c N]; omega) hk
  have h0 := hm i k hik hk
  have hc : (c : Int) ≤ Int.tdiv (at0 W k - at0 W i) t := by
    rw [Int.tdiv_eq_ediv_of_nonneg (by omega)]
    exact Int.le_ediv_of_mul_le (by omega) (by omega)
  have h3 : n * ((c : Int) + 2) ≤ n * (Int.tdiv (at0 W k - at0 W i) t + 2) := Int.mul_le_mul_of_nonneg_left (by omega) (by omega)
  have h4 : ((k - i : Nat) : Int) < n * ((c : Int) + 1) := by
    rw [hN]
    exact_mod_cast hlt
  have h5 : n * ((c : Int) + 2) = n * ((c : Int) + 1) + n := by rw [show (c : Int) + 2 = (c + 1) + 1 by omega, Int.mul_add n (c + 1) 1, Int.mul_one]
  omega
def I8 (q : List Int) (n t : Int) (d : ((List Int) × Int × Int × Unit × Int × Unit × Int × Unit) × ((Int × Int × Int × Int × Unit) × (List Int) × Unit)) : Prop :=
  ∃ now i w u W, d = ((q, n, t, (), now, (), i, ()), ((n, t, w, u, ()), W, ())) ∧ 0 ≤ i ∧ i ≤ 60 ∧ 0 ≤ now ∧ now ≤ 7 * i ∧ 0 ≤ w ∧ w ≤ n ∧ (W.length : Int) ≤ i ∧ (∀ j, j < W.length → 0 ≤ at0 W j ∧ at0 W j ≤ now) ∧
    (∀ j k, j ≤ k → k < W.length → at0 W j ≤ at0 W k) ∧ (∀ j, j + n.toNat < W.length → at0 W j + t ≤ at0 W (j + n.toNat)) ∧ (w = n → ∀ j, j < W.length → at0 W j + t ≤ u) ∧ (w < n → u ≤ now ∧ ∀ j : Nat, (j : Int) + w < W.length → at0 W j + t ≤ u)
theorem append18 {W : List Int} {n t now x w u w' u' : Int} (ht : 1 ≤ t) (hn : 1 ≤ n) (w0 : 0 ≤ w) (hx : 0 ≤ x) (hnow : now ≤ x) (hb : ∀ j, j < W.length → 0 ≤ at0 W j ∧ at0 W j ≤ now) (hm : ∀ j k, j ≤ k → k < W.length → at0 W j ≤ at0 W k) (hs : ∀ j, j + n.toNat < W.length → at0 W j + t ≤ at0 W (j + n.toNat))
    (hA : w = n → ∀ j, j < W.length → at0 W j + t ≤ u) (hB : w < n → u ≤ now ∧ ∀ j : Nat, (j : Int) + w < W.length → at0 W j + t ≤ u) (hfree : ¬ (w ≥ n ∧ x < u)) (hw : w ≤ n)
    (hf : (w ≥ n ∧ u ≤ x ∧ w' = 1 ∧ ((n = 1 ∧ u' = x + t) ∨ (n ≠ 1 ∧ u' = u))) ∨ (w < n ∧ w' = w + 1 ∧ ((w + 1 = n ∧ u' = x + t) ∨ (w + 1 ≠ n ∧ u' = u)))) :
    (∀ j, j < (W ++ [x]).length → 0 ≤ at0 (W ++ [x]) j ∧ at0 (W ++ [x]) j ≤ x) ∧ (∀ j k, j ≤ k → k < (W ++ [x]).length → at0 (W ++ [x]) j ≤ at0 (W ++ [x]) k) ∧ (∀ j, j + n.toNat < (W ++ [x]).length → at0 (W ++ [x]) j + t ≤ at0 (W ++ [x]) (j + n.toNat)) ∧
    (w' = n → ∀ j, j < (W ++ [x]).length → at0 (W ++ [x]) j + t ≤ u') ∧ (w' < n → u' ≤ x ∧ ∀ j : Nat, (j : Int) + w' < (W ++ [x]).length → at0 (W ++ [x]) j + t ≤ u') := by
  have hl : (W ++ [x]).length = W.length + 1 := by simp
  have old : ∀ j, j < W.length → at0 (W ++ [x]) j = at0 W j := fun j hj => by rw [at0_append, if_pos hj]
  have new : at0 (W ++ [x]) W.length = x := by rw [at0_append, if_neg (by omega), if_pos rfl]
  have hall : ∀ j, j < (W ++ [x]).length → 0 ≤ at0 (W ++ [x]) j ∧ at0 (W ++ [x]) j ≤ x := by
    intro j hj
    rw [hl] at hj
    by_cases h : j < W.length
    · rw [old j h]; have := hb j h; omega
    · obtain rfl : j = W.length := by omega
      rw [new]; omega
  refine ⟨hall, fun j k hjk hk => ?_, fun j hj => ?_, fun hw' j hj => ?_, fun hw' => ⟨by omega, fun j hj => ?_⟩⟩
  · by_cases h : k < W.length
    · rw [old k h, old j (by omega)]; exact hm j k hjk h
    · obtain rfl : k = W.length := by omega
      rw [new]; exact (hall j (by omega)).2
  · rw [hl] at hj
    by_cases h : j + n.toNat < W.length
    · rw [old _ h, old j (by omega)]; exact hs j h
    · have e : j + n.toNat = W.length := by omega
      rw [e, new, old j (by omega)]
      rcases hf with hf | hf
      · have := hA (by omega) j (by omega); omega
      · have := (hB hf.1).2 j (by omega)
        have := (hB hf.1).1
        omega
  · have h1 := (hall j hj).2
    omega
  · rw [hl] at hj
    rcases hf with hf | hf
    · rw [old j (by omega)]
      have := hA (by omega) j (by omega)
      omega
    · rw [old j (by omega)]
      have := (hB hf.1).2 j (by omega)
      omega
theorem jobberlaw18_LockBound.law (a0 a1 : Int) (a2 : List Int) (h0 : Rng (.int .i64) a0) (h1 : Rng (.int .i64) a1) (h2 : Rng (.deep (.int .i64)) a2) : jobberlaw18_LockBound ((a0, a1, a2, ()), ()) = some ((true, ()), ()) := by
  obtain ⟨n, n1, n2, en⟩ := within18 (rng64 h0) (lo := 1) (hi := 4) (by omega) (by omega) (by omega) (by omega)
  obtain ⟨t, t1, t2, et⟩ := within18 (rng64 h1) (lo := 1) (hi := 20) (by omega) (by omega) (by omega) (by omega)
  have hq : ∀ x ∈ a2, -9223372036854775808 ≤ x ∧ x ≤ 9223372036854775807 := h2.2
  simp only [jobberlaw18_LockBound, en, et, Option.bind_some, new18 (t := n) (k := t) (by omega) (by omega) (by omega) (by omega), odec_eq]
  have key := loop_ind (b := jobberlaw18_LockBound_l8) (I8 a2 n t) (fun r => ∃ W h, r = .inr ((n, t, W, ()), h) ∧ W.length ≤ 60 ∧ (∀ j, j < W.length → 0 ≤ at0 W j ∧ at0 W j ≤ 420) ∧ (∀ j k, j ≤ k → k < W.length → at0 W j ≤ at0 W k) ∧ (∀ j, j + n.toNat < W.length → at0 W j + t ≤ at0 W (j + n.toNat))) (fun d => (60 - d.1.2.2.2.2.2.2.1).toNat) (by
    rintro d ⟨now, i, w, u, W, rfl, i0, i1, m0, m1, w0, w1, hlen, hb, hm, hs, hA, hB⟩
    have hend : ∃ W' h, (Sum.inr ((n, t, W, ()), ((n, t, w, u, ()), ())) : ((Bool × Unit) × ((Int × Int × Int × Int × Unit) × Unit)) ⊕ ((Int × Int × (List Int) × Unit) × ((Int × Int × Int × Int × Unit) × Unit))) = .inr ((n, t, W', ()), h) ∧ W'.length ≤ 60 ∧ (∀ j, j < W'.length → 0 ≤ at0 W' j ∧ at0 W' j ≤ 420) ∧ (∀ j k, j ≤ k → k < W'.length → at0 W' j ≤ at0 W' k) ∧ (∀ j, j + n.toNat < W'.length → at0 W' j + t ≤ at0 W' (j + n.toNat)) :=
      ⟨W, _, rfl, by omega, fun j hj => by have := hb j hj; omega, hm, hs⟩
    simp only [jobberlaw18_LockBound_l8, odec_eq, Bool.cond_decide]
    by_cases hi : i < (a2.length : Int)
    · rw [if_pos hi]
      by_cases h40 : i < 60
      · rw [if_pos h40, if_pos i0]
        obtain ⟨x, ex, hx⟩ := get_int i0 hi
        obtain ⟨s, s0, s1, es⟩ := within18 (hq x hx) (lo := 0) (hi := 7) (by omega) (by omega) (by omega) (by omega)
        have e1 : wr .i64 (now + s) = now + s := wr64 (by omega) (by omega)
        have e3 : wr .i64 (i + 1) = i + 1 := wr64 (by omega) (by omega)
        obtain ⟨w', u', ef, hf⟩ := fail18 (now := now + s) (t := n) (k := t) (w := w) (u := u) (by omega) (by omega) (by omega)
        have hroom : ((W.length + [now + s].length : Nat) : Int) * (8 : Nat) ≤ room := by
          have : room = 70368744177664 := room_eq
          rw [this]; simp; omega
        simp only [ex, es, Option.bind_some, e1, e3, ef, locked18, wrong18, cond_not', odec_eq, Bool.cond_decide, if_pos hroom]
        right
        by_cases hl : w ≥ n ∧ now + s < u
        · obtain rfl : w' = w := by omega
          obtain rfl : u' = u := by omega
          rw [if_pos hl, if_neg (by omega), if_neg (by omega)]
          exact ⟨_, rfl, ⟨_, _, _, _, _, rfl, by omega, by omega, by omega, by omega, by omega, by omega, by omega, fun j hj => by have := hb j hj; omega, hm, hs, hA, fun h => by omega⟩, by simp only; omega⟩
        · rw [if_neg hl, if_neg (by omega), if_neg (by omega)]
          obtain ⟨g1, g2, g3, g4, g5⟩ := append18 (W := W) (n := n) (t := t) (now := now) (x := now + s) (w := w) (u := u) (w' := w') (u' := u') t1 n1 w0 (by omega) (by omega) hb hm hs hA hB hl w1 (by omega)
          exact ⟨_, rfl, ⟨_, _, _, _, _, rfl, by omega, by omega, by omega, by omega, by omega, by omega, by simp; omega, g1, g2, g3, g4, g5⟩, by simp only; omega⟩
      · rw [if_neg h40]; exact .inl ⟨_, rfl, hend⟩
    · rw [if_neg hi]; exact .inl ⟨_, rfl, hend⟩)
  obtain ⟨r, hr, W, h, rfl, wl, hb, hm, hs⟩ := key ((a2, n, t, (), 0, (), 0, ()), ((n, t, 0, 0, ()), ([] : List Int), ())) ⟨0, 0, 0, 0, [], rfl, by omega, by omega, by omega, by omega, by omega, by omega, by simp, fun j hj => by simp at hj, fun j k _ hk => by simp at hk, fun j hj => by simp at hj, fun _ j hj => by simp at hj, fun _ => ⟨by omega, fun j hj => by simp at hj; omega⟩⟩
  have inner : ∀ i : Int, 0 ≤ i → i < (W.length : Int) → ∃ r, loopFix (L := ((Int × Int × (List Int) × Int × Int × Int × Int × Unit) × (Unit))) jobberlaw18_LockBound_l20 ((n, t, W, i, i, (W.length : Int), i, ()), ()) = some r ∧ r = .inr ((n, t, W, (W.length : Int), i, ()), ()) := by
    intro i i0 i1
    refine loop_ind (b := jobberlaw18_LockBound_l20) (fun d => ∃ k : Int, d = ((n, t, W, i, k, (W.length : Int), i, ()), ()) ∧ i ≤ k ∧ k ≤ (W.length : Int)) (fun r => r = .inr ((n, t, W, (W.length : Int), i, ()), ())) (fun d => ((W.length : Int) - d.1.2.2.2.2.1).toNat) ?_ _ ⟨i, rfl, by omega, by omega⟩
    rintro d ⟨k, rfl, k0, k1⟩
    simp only [jobberlaw18_LockBound_l20, odec_eq, Bool.cond_decide]
    by_cases hk : k < (W.length : Int)
    · rw [if_pos hk, if_pos (by omega)]
      have ek := at0_get (W := W) (j := k.toNat) (by omega)
      have ei := at0_get (W := W) (j := i.toNat) (by omega)
      have bk := hb k.toNat (by omega)
      have bi := hb i.toNat (by omega)
      have bd := bound18 (W := W) (N := n.toNat) (n := n) (t := t) (by omega) (by omega) t1 hm hs (i := i.toNat) (k := k.toNat) (by omega) (by omega)
      have bm := hm i.toNat k.toNat (by omega) (by omega)
      have hdv : 0 ≤ Int.tdiv (at0 W k.toNat - at0 W i.toNat) t ∧ Int.tdiv (at0 W k.toNat - at0 W i.toNat) t ≤ 420 := by
        rw [Int.tdiv_eq_ediv_of_nonneg (by omega)]
        refine ⟨Int.ediv_nonneg (by omega) (by omega), ?_⟩
        have := Int.ediv_le_self t (show 0 ≤ at0 W k.toNat - at0 W i.toNat by omega)
        omega
      have e1 : wr .i64 (at0 W k.toNat - at0 W i.toNat) = at0 W k.toNat - at0 W i.toNat := wr64 (by omega) (by omega)
      simp only [ek, ei, Option.bind_some, e1, if_pos i0]
      generalize Int.tdiv (at0 W k.toNat - at0 W i.toNat) t = v at bd hdv
      have hp : 0 ≤ n * (v + 2) ∧ n * (v + 2) ≤ 4 * 422 := ⟨Int.mul_nonneg (by omega) (by omega), Int.mul_le_mul n2 (by omega) (by omega) (by omega)⟩
      have e2 : wr .i64 v = v := wr64 (by omega) (by omega)
      have e3 : wr .i64 (v + 2) = v + 2 := wr64 (by omega) (by omega)
      have e4 : wr .i64 (n * (v + 2)) = n * (v + 2) := wr64 (by omega) (by omega)
      have e5 : wr .i64 (k - i) = k - i := wr64 (by omega) (by omega)
      have e6 : wr .i64 (k - i + 1) = k - i + 1 := wr64 (by omega) (by omega)
      have e7 : wr .i64 (k + 1) = k + 1 := wr64 (by omega) (by omega)
      simp only [e2, e3, e4, e5, e6, e7]
      rw [if_neg (by omega), if_neg (by omega)]
      exact .inr ⟨_, rfl, ⟨_, rfl, by omega, by omega⟩, by simp only; omega⟩
    · rw [if_neg hk]; exact .inl ⟨_, rfl, rfl⟩
  have key2 := loop_ind (b := jobberlaw18_LockBound_l17) (fun d => ∃ i : Int, d = ((n, t, W, (W.length : Int), i, ()), ()) ∧ 0 ≤ i ∧ i ≤ (W.length : Int)) (fun r => ∃ d, r = .inr d) (fun d => ((W.length : Int) - d.1.2.2.2.2.1).toNat) (by
    rintro d ⟨i, rfl, i0, i1⟩
    simp only [jobberlaw18_LockBound_l17, odec_eq, Bool.cond_decide]
    by_cases hi : i < (W.length : Int)
    · rw [if_pos hi]
      obtain ⟨r, hr, rfl⟩ := inner i i0 hi
      have e7 : wr .i64 (i + 1) = i + 1 := wr64 (by omega) (by omega)
      simp only [hr, Option.bind_some, e7]
      exact .inr ⟨_, rfl, ⟨_, rfl, by omega, by omega⟩, by simp only; omega⟩
    · rw [if_neg hi]; exact .inl ⟨_, rfl, _, rfl⟩)
  obtain ⟨r, hr2, d, rfl⟩ := key2 ((n, t, W, (W.length : Int), 0, ()), ()) ⟨0, rfl, by omega, by omega⟩
  simp [hr, hr2, jobberlaw18_LockRuns.law]
end AM
