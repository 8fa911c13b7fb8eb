/- The laws of chapter 17, in plain Lean. -/
import Derived.Test.YtgeoonfjoolklaaPrn
set_option linter.unusedVariables false
set_option linter.unusedSimpArgs false
namespace AM
open Go
theorem within17 {v lo hi : Int} (hv : -9223372036854775808 ≤ v ∧ v ≤ 9223372036854775807) (h0 : -4611686018427387904 ≤ lo) (h1 : lo ≤ hi) (h2 : hi ≤ 4611686018427387902) (h3 : hi - lo < 4611686018427387904) :
    ∃ r, lo ≤ r ∧ r ≤ hi ∧ jobberbook_Within ((v, lo, hi, ()), ()) = some ((r, ()), ()) := within_ok hv h0 h1 h2 h3
theorem new17 {t k : Int} (h1 : 1 ≤ t) (h2 : t ≤ 1048576) (h3 : 1 ≤ k) (h4 : k ≤ 1099511627776) : bucket_New ((t, k, ()), ()) = some (.inr (((), 0, ()), ((t, k, t, 0, ()), ()))) := by
  simp only [bucket_New, odec_eq, Bool.cond_decide]
  rw [if_neg (by omega), if_neg (by omega), if_neg (by omega), if_neg (by omega)]
/-- what has come, as it may go -/
def Came (n r l f now l1 f1 : Int) : Prop := (now ≤ f ∧ l1 = l ∧ f1 = f) ∨ (∃ q p, f < now ∧ p = q * r ∧ 0 ≤ q ∧ 0 ≤ p ∧ p ≤ now - f ∧ now - f < p + r ∧ q ≤ p ∧ ((n ≤ l + q ∧ l1 = n ∧ f1 = now) ∨ (l + q < n ∧ l1 = l + q ∧ f1 = f + p)))
theorem come17 {n r l f now : Int} (hr : 1 ≤ r) (hl : 0 ≤ l ∧ l ≤ 1048576) (hf : 0 ≤ f ∧ f ≤ 1099511627776) (hn : 0 ≤ now ∧ now ≤ 1099511627776) :
    ∃ l1 f1, bucket_Bucket_come (((), now, ()), ((n, r, l, f, ()), ())) = some ((), ((n, r, l1, f1, ()), ())) ∧ Came n r l f now l1 f1 := by
  simp only [bucket_Bucket_come, odec_eq, Bool.cond_decide]
  by_cases h : now ≤ f
  · rw [if_pos h]; exact ⟨_, _, rfl, .inl ⟨h, rfl, rfl⟩⟩
  · rw [if_neg h, if_neg (by omega)]
    have e1 : wr .i64 (now - f) = now - f := wr64 (by omega) (by omega)
    rw [e1, Int.tdiv_eq_ediv_of_nonneg (by omega)]
    have q0 : 0 ≤ (now - f) / r := Int.ediv_nonneg (by omega) (by omega)
    have q1 : (now - f) / r ≤ now - f := Int.ediv_le_self _ (by omega)
    have p1 : (now - f) / r * r ≤ now - f := Int.ediv_mul_le _ (by omega)
    have p2 : now - f < (now - f) / r * r + r := by
      have := Int.lt_ediv_add_one_mul_self (now - f) (show 0 < r by omega)
      rwa [Int.add_mul, Int.one_mul] at this
    have p0 : 0 ≤ (now - f) / r * r := Int.mul_nonneg q0 (by omega)
    have qp : (now - f) / r ≤ (now - f) / r * r := by
      have := Int.mul_le_mul_of_nonneg_left hr q0
      rwa [Int.mul_one] at this
    generalize hq : (now - f) / r = q at q0 q1 p0 p1 p2 qp
    generalize hp : q * r = p at p0 p1 p2 qp
    have e2 : wr .i64 q = q := wr64 (by omega) (by omega)
    have e3 : wr .i64 (l + q) = l + q := wr64 (by omega) (by omega)
    have e4 : wr .i64 p = p := wr64 (by omega) (by omega)
    have e5 : wr .i64 (f + p) = f + p := wr64 (by omega) (by omega)
    simp only [e2, e3, hp, e4, e5]
    by_cases h2 : l + q ≥ n
    · rw [if_pos h2]; exact ⟨_, _, rfl, .inr ⟨q, p, by omega, hp.symm, q0, p0, p1, p2, qp, .inl ⟨h2, rfl, rfl⟩⟩⟩
    · rw [if_neg h2]; exact ⟨_, _, rfl, .inr ⟨q, p, by omega, hp.symm, q0, p0, p1, p2, qp, .inr ⟨by omega, rfl, rfl⟩⟩⟩
/-- a token is asked for -/
def Took17 (n l1 f1 now : Int) (b : Bool) (l2 f2 : Int) : Prop := (l1 = 0 ∧ b = false ∧ l2 = 0 ∧ f2 = f1) ∨ (l1 ≠ 0 ∧ b = true ∧ l2 = l1 - 1 ∧ ((l1 = n ∧ f1 ≤ f2 ∧ now ≤ f2 ∧ (f2 = f1 ∨ f2 = now)) ∨ (l1 ≠ n ∧ f2 = f1)))
theorem take17 {n r l f now : Int} (hr : 1 ≤ r) (hn1 : 1 ≤ n) (hn2 : n ≤ 1048576) (hl : 0 ≤ l ∧ l ≤ n) (hf : 0 ≤ f ∧ f ≤ 1099511627776) (hn : 0 ≤ now ∧ now ≤ 1099511627776) :
    ∃ l1 f1 b l2 f2, bucket_Bucket_Take (((), now, ()), ((n, r, l, f, ()), ())) = some ((b, ()), ((n, r, l2, f2, ()), ())) ∧ Came n r l f now l1 f1 ∧ Took17 n l1 f1 now b l2 f2 ∧ 0 ≤ l1 ∧ l1 ≤ n ∧ 0 ≤ f1 ∧ f1 ≤ max f now := by
  obtain ⟨l1, f1, ec, hc⟩ := come17 (n := n) (r := r) (l := l) (f := f) (now := now) hr (by omega) hf hn
  have hb : 0 ≤ l1 ∧ l1 ≤ n ∧ 0 ≤ f1 ∧ f1 ≤ max f now := by
    rcases hc with hc | ⟨q, p, _, _, hc⟩ <;> omega
  have e1 : wr .i64 (l1 - 1) = l1 - 1 := wr64 (by omega) (by omega)
  simp only [bucket_Bucket_Take, ec, Option.bind_some, odec_eq, Bool.cond_decide, e1, imax]
  by_cases h0 : l1 = 0
  · rw [if_pos h0]; exact ⟨l1, f1, _, _, _, by rw [h0], hc, .inl ⟨h0, rfl, h0, rfl⟩, hb⟩
  · rw [if_neg h0]
    by_cases h1 : l1 = n
    · rw [if_pos h1]
      refine ⟨l1, f1, _, _, _, rfl, hc, .inr ⟨h0, rfl, rfl, .inl ⟨h1, ?_⟩⟩, hb⟩
      split <;> omega
    · rw [if_neg h1]; exact ⟨l1, f1, _, _, _, rfl, hc, .inr ⟨h0, rfl, rfl, .inr ⟨h1, rfl⟩⟩, hb⟩
theorem left17 (t k w u : Int) : bucket_Bucket_Left (((), ()), ((t, k, w, u, ()), ())) = some ((w, ()), ((t, k, w, u, ()), ())) := rfl
theorem jobberlaw17_BucketRuns.law : jobberlaw17_BucketRuns ((), ()) = some ((true, ()), ()) := by
  have hroom : room = 70368744177664 := room_eq
  have hw : ∀ n : Int, -1000 ≤ n → n ≤ 1000 → wr .i64 n = n := fun n h0 h1 => wr64 (by omega) (by omega)
  have h1 : loopFix (L := ((Unit × Unit × (List Int) × Int × Int × Unit) × ((Int × Int × Int × Int × Unit) × (List Bool) × Unit))) jobberlaw17_BucketRuns_l6 (((), (), ([0, 0, 0, 9, 10, 10, 35, 35, 35] : List Int), 9, 0, ()), ((2, 10, 2, 0, ()), ([] : List Bool), ())) = some (([true, true, false, false, true, false, true, true, false], ()), ((2, 10, 0, 35, ()), ())) := by
    refine loopFix_iff.2 ⟨10, ?_⟩
    simp [iter, jobberlaw17_BucketRuns_l6, bucket_Bucket_Take, bucket_Bucket_come, odec_eq, hw, hroom, imax]
  have h2 : loopFix (L := (((List Bool) × (List Bool) × Int × Unit) × (Unit))) jobberbook_Same_bool_l4 (([true, true, false, false, true, false, true, true, false], [true, true, false, false, true, false, true, true, false], 0, ()), ()) = some (.inr ((), ())) := by
    refine loopFix_iff.2 ⟨10, ?_⟩
    simp [iter, jobberbook_Same_bool_l4, odec_eq, hw, boolEq]
  simp [jobberlaw17_BucketRuns, new17 (t := 2) (k := 10) (by omega) (by omega) (by omega) (by omega), h1, h2, jobberbook_Same_bool, odec_eq]

theorem cond_not17 {β : Type} (b : Bool) (x y : β) : (bif !b then x else y) = (bif b then y else x) := by cases b <;> rfl
theorem boolEq_dec17 (p q : Prop) [Decidable p] [Decidable q] : boolEq (decide p) (decide q) = decide (p ↔ q) := by
  by_cases hp : p <;> by_cases hq : q <;> simp [boolEq, hp, hq]
theorem boolEq_self (b : Bool) : boolEq b b = true := by cases b <;> rfl
theorem refTake17 {n r l f now : Int} (hr : 1 ≤ r) (hn1 : 1 ≤ n) (hn2 : n ≤ 1048576) (hl : 0 ≤ l ∧ l ≤ n) (hf : 0 ≤ f ∧ f ≤ 1099511627776) (hn : 0 ≤ now ∧ now ≤ 1099511627776) :
    jobberref13_Bucket_Take (((), now, ()), ((n, r, l, f, ()), ())) = bucket_Bucket_Take (((), now, ()), ((n, r, l, f, ()), ())) := by
  simp only [jobberref13_Bucket_Take, bucket_Bucket_Take, bucket_Bucket_come, odec_eq, Bool.cond_decide, imax]
  by_cases h : now ≤ f
  · rw [if_neg (show ¬ now > f by omega), if_pos h]
    simp only [Option.bind_some]
    by_cases h0 : l = 0
    · rw [if_pos (by omega), if_pos h0]
    · rw [if_neg (show ¬ l < 1 by omega), if_neg h0]
  · rw [if_pos (show now > f by omega), if_neg h, if_neg (show ¬ r = 0 by omega), if_neg (show ¬ r = 0 by omega)]
    have e1 : wr .i64 (now - f) = now - f := wr64 (by omega) (by omega)
    rw [e1, Int.tdiv_eq_ediv_of_nonneg (by omega)]
    have q0 : 0 ≤ (now - f) / r := Int.ediv_nonneg (by omega) (by omega)
    have q1 : (now - f) / r ≤ now - f := Int.ediv_le_self _ (by omega)
    generalize (now - f) / r = q at q0 q1
    have e2 : wr .i64 q = q := wr64 (by omega) (by omega)
    have e3 : wr .i64 (l + q) = l + q := wr64 (by omega) (by omega)
    have e4 : wr .i64 (n - l) = n - l := wr64 (by omega) (by omega)
    simp only [e2, e3, e4]
    by_cases h2 : l + q ≥ n
    · rw [if_pos (show q ≥ n - l by omega), if_pos h2, if_neg (show ¬ n < 1 by omega)]
      simp only [Option.bind_some]
      rw [if_neg (show ¬ n = 0 by omega)]
    · rw [if_neg (show ¬ q ≥ n - l by omega), if_neg h2]
      simp only [Option.bind_some]
      by_cases h0 : l + q = 0
      · rw [if_pos (by omega), if_pos h0]
      · rw [if_neg (show ¬ l + q < 1 by omega), if_neg h0]
theorem newSame17 (t k : Int) : jobberref13_NewBucket ((t, k, ()), ()) = bucket_New ((t, k, ()), ()) := rfl
theorem jobberlaw17_BucketPlays.law (a0 a1 : Int) (a2 : List Int) (h0 : Rng (.int .i64) a0) (h1 : Rng (.int .i64) a1) (h2 : Rng (.deep (.int .i64)) a2) : jobberlaw17_BucketPlays ((a0, a1, a2, ()), ()) = some ((true, ()), ()) := by
  have hq : ∀ x ∈ a2, -9223372036854775808 ≤ x ∧ x ≤ 9223372036854775807 := h2.2
  by_cases hv : 1 ≤ a0 ∧ a0 ≤ 1048576 ∧ 1 ≤ a1 ∧ a1 ≤ 1099511627776
  · simp only [jobberlaw17_BucketPlays, newSame17, Option.bind_some, new17 (t := a0) (k := a1) (by omega) (by omega) (by omega) (by omega), odec_eq]
    have key := loop_ind (b := jobberlaw17_BucketPlays_l6b) (fun d => ∃ i l f, d = ((a2, (), (), i, ()), ((a0, a1, l, f, ()), (a0, a1, l, f, ()), ())) ∧ 0 ≤ i ∧ i ≤ 60 ∧ 0 ≤ l ∧ l ≤ a0 ∧ 0 ≤ f ∧ f ≤ 1099511627776) (fun r => ∃ d, r = .inr d) (fun d => (60 - d.1.2.2.2.1).toNat) (by
      rintro d ⟨i, l, f, rfl, i0, i1, l0, l1, f0, f1⟩
      simp only [jobberlaw17_BucketPlays_l6b, odec_eq, Bool.cond_decide]
      by_cases hi : i < (a2.length : Int)
      · rw [if_pos hi]
        by_cases h40 : i < 60
        · rw [if_pos h40, if_pos i0]
          obtain ⟨x, ex, hx⟩ := get_int i0 hi
          obtain ⟨now, s0, s1, es⟩ := within17 (hq x hx) (lo := 0) (hi := 1099511627776) (by omega) (by omega) (by omega) (by omega)
          have e3 : wr .i64 (i + 1) = i + 1 := wr64 (by omega) (by omega)
          obtain ⟨l1, f1, b, l2, f2, et, hc, ht, g1, g2, g3, g4⟩ := take17 (n := a0) (r := a1) (l := l) (f := f) (now := now) (by omega) (by omega) (by omega) (by omega) (by omega) (by omega)
          have er := refTake17 (n := a0) (r := a1) (l := l) (f := f) (now := now) (by omega) (by omega) (by omega) (by omega) (by omega) (by omega)
          simp only [ex, es, Option.bind_some, e3, er, et, left17, cond_not17, odec_eq, Bool.cond_decide, boolEq_self, if_true, cond_true]
          right
          refine ⟨_, rfl, ⟨_, _, _, rfl, by omega, by omega, ?_⟩, by simp only; omega⟩
          rcases ht with ⟨h1, h2, h3, h4⟩ | ⟨h1, h2, h3, h4⟩ <;> omega
        · rw [if_neg h40]; exact .inl ⟨_, rfl, _, rfl⟩
      · rw [if_neg hi]; exact .inl ⟨_, rfl, _, rfl⟩)
    obtain ⟨r, hr, d, rfl⟩ := key ((a2, (), (), 0, ()), ((a0, a1, a0, 0, ()), (a0, a1, a0, 0, ()), ())) ⟨0, a0, 0, rfl, by omega, by omega, by omega, by omega, by omega, by omega⟩
    simp [hr, jobberlaw17_BucketRuns.law]
  · have hnew : bucket_New ((a0, a1, ()), ()) = some (.inl (((), 1, ()), ())) := by
      simp only [bucket_New, odec_eq, Bool.cond_decide]
      split
      · rfl
      · split
        · rfl
        · split
          · rfl
          · split
            · rfl
            · omega
    have hl : loopFix (L := (((List Int) × Unit × Unit × Int × Unit) × (Unit))) jobberlaw17_BucketPlays_l6 ((a2, (), (), 0, ()), ()) = some ((), ()) := by
      rw [loopFix_eq]
      simp only [jobberlaw17_BucketPlays_l6, odec_eq, Bool.cond_decide]
      split
      · rename_i h; split at h
        · split at h <;> cases h
        · cases h
      · rename_i h; split at h
        · split at h <;> (cases h; rfl)
        · cases h; rfl
      · rename_i h; split at h
        · split at h <;> cases h
        · cases h
    simp [jobberlaw17_BucketPlays, newSame17, hnew, hl, jobberlaw17_BucketRuns.law, odec_eq]
theorem quot17 {q p r x c : Int} (hr : 0 < r) (hp : p = q * r) (h1 : p ≤ x) (h2 : x < p + r) (h3 : c * r ≤ x) (h4 : x < c * r + r) : q = c := by
  rcases Int.lt_trichotomy q c with h | h | h
  · exfalso
    have := Int.mul_le_mul_of_nonneg_right (show q + 1 ≤ c by omega) (show 0 ≤ r by omega)
    rw [Int.add_mul, Int.one_mul] at this
    omega
  · exact h
  · exfalso
    have := Int.mul_le_mul_of_nonneg_right (show c + 1 ≤ q by omega) (show 0 ≤ r by omega)
    rw [Int.add_mul, Int.one_mul] at this
    omega
theorem jobberlaw17_BucketFair.law (a0 a1 a2 : Int) (h0 : Rng (.int .i64) a0) (h1 : Rng (.int .i64) a1) (h2 : Rng (.int .i64) a2) : jobberlaw17_BucketFair ((a0, a1, a2, ()), ()) = some ((true, ()), ()) := by
  obtain ⟨n, n1, n2, en⟩ := within17 (rng64 h0) (lo := 1) (hi := 8) (by omega) (by omega) (by omega) (by omega)
  obtain ⟨r, r1, r2, er⟩ := within17 (rng64 h1) (lo := 1) (hi := 100) (by omega) (by omega) (by omega) (by omega)
  obtain ⟨now, m1, m2, em⟩ := within17 (rng64 h2) (lo := 0) (hi := 1000) (by omega) (by omega) (by omega) (by omega)
  have nr0 : 0 ≤ n * r := Int.mul_nonneg (by omega) (by omega)
  have nr1 : n * r ≤ 800 := Int.mul_le_mul n2 r2 (by omega) (by omega)
  have nr2 : r ≤ n * r := by
    have := Int.mul_le_mul_of_nonneg_right n1 (show 0 ≤ r by omega)
    rwa [Int.one_mul] at this
  simp only [jobberlaw17_BucketFair, en, er, em, Option.bind_some, new17 (t := n) (k := r) (by omega) (by omega) (by omega) (by omega), odec_eq]
  have full : ∀ f at_ : Int, 0 ≤ f → f ≤ 3000 → 0 ≤ at_ → at_ ≤ 3000 → f ≤ at_ → ∀ l, 0 ≤ l → l ≤ n → (l = n ∨ n * r ≤ at_ - f) → bucket_Bucket_Take (((), at_, ()), ((n, r, l, f, ()), ())) = some ((true, ()), ((n, r, n - 1, at_, ()), ())) := by
    intro f at_ f0 f1 g0 g1 hfa l l0 l1 hfull
    obtain ⟨l1', f1', b, l2, f2, et, hc, ht, g⟩ := take17 (n := n) (r := r) (l := l) (f := f) (now := at_) (by omega) (by omega) (by omega) (by omega) (by omega) (by omega)
    have hl1 : l1' = n ∧ f1' ≤ at_ := by
      rcases hc with hc | ⟨q, p, q1, q2, q3, q4, q5, q6, q7, hc⟩
      · rcases hfull with hfull | hfull <;> omega
      · rcases hc with hc | hc
        · omega
        · exfalso
          rcases hfull with hfull | hfull
          · omega
          · have := Int.mul_le_mul_of_nonneg_right (show q + 1 ≤ n by omega) (show 0 ≤ r by omega)
            rw [Int.add_mul, Int.one_mul] at this
            omega
    rcases ht with ht | ⟨t1, t2, t3, t4⟩
    · omega
    · obtain rfl : l2 = n - 1 := by omega
      obtain rfl : f2 = at_ := by omega
      rw [et, t2]
  have more : ∀ at_ l : Int, 0 ≤ at_ → at_ ≤ 3000 → 1 ≤ l → l < n → bucket_Bucket_Take (((), at_, ()), ((n, r, l, at_, ()), ())) = some ((true, ()), ((n, r, l - 1, at_, ()), ())) := by
    intro at_ l g0 g1 l0 l1
    obtain ⟨l1', f1', b, l2, f2, et, hc, ht, g⟩ := take17 (n := n) (r := r) (l := l) (f := at_) (now := at_) (by omega) (by omega) (by omega) (by omega) (by omega) (by omega)
    have hl1 : l1' = l ∧ f1' = at_ := by
      rcases hc with hc | ⟨q, p, q1, hc⟩ <;> omega
    rcases ht with ht | ⟨t1, t2, t3, t4⟩
    · omega
    · obtain rfl : l2 = l - 1 := by omega
      obtain rfl : f2 = at_ := by omega
      rw [et, t2]
  have empty : ∀ f at_ : Int, 0 ≤ f → f ≤ 3000 → 0 ≤ at_ → at_ ≤ 3000 → at_ < f + r → bucket_Bucket_Take (((), at_, ()), ((n, r, 0, f, ()), ())) = some ((false, ()), ((n, r, 0, f, ()), ())) := by
    intro f at_ f0 f1 g0 g1 hlt
    obtain ⟨l1', f1', b, l2, f2, et, hc, ht, g⟩ := take17 (n := n) (r := r) (l := 0) (f := f) (now := at_) (by omega) (by omega) (by omega) (by omega) (by omega) (by omega)
    have hl1 : l1' = 0 ∧ f1' = f := by
      rcases hc with hc | ⟨q, p, q1, q2, q3, q4, q5, q6, q7, hc⟩
      · omega
      · have hq : q = 0 := quot17 (c := 0) (by omega) q2 q5 q6 (by omega) (by omega)
        subst hq
        omega
    rcases ht with ⟨t1, t2, t3, t4⟩ | ht
    · obtain rfl : l2 = 0 := by omega
      obtain rfl : f2 = f := by omega
      rw [et, t2]
    · omega
  have key := loop_ind (b := jobberlaw17_BucketFair_l7) (fun d => ∃ i l f, d = ((n, r, (), now, i, ()), ((n, r, l, f, ()), ())) ∧ 0 ≤ i ∧ i ≤ n ∧ ((i = 0 ∧ l = n ∧ f = 0) ∨ (1 ≤ i ∧ l = n - i ∧ f = now))) (fun x => x = .inr ((n, r, (), now, ()), ((n, r, 0, now, ()), ()))) (fun d => (n - d.1.2.2.2.2.1).toNat) (by
    rintro d ⟨i, l, f, rfl, i0, i1, hst⟩
    simp only [jobberlaw17_BucketFair_l7, odec_eq, Bool.cond_decide]
    by_cases hi : i < n
    · rw [if_pos hi]
      have e3 : wr .i64 (i + 1) = i + 1 := wr64 (by omega) (by omega)
      right
      rcases hst with ⟨rfl, rfl, rfl⟩ | ⟨g1, rfl, rfl⟩
      · simp only [full 0 now (by omega) (by omega) (by omega) (by omega) (by omega) l (by omega) (by omega) (.inl rfl), Option.bind_some, e3, Bool.not_true, cond_false]
        exact ⟨_, rfl, ⟨_, _, _, rfl, by omega, by omega, .inr ⟨by omega, by omega, rfl⟩⟩, by simp only; omega⟩
      · simp only [more f (n - i) (by omega) (by omega) (by omega) (by omega), Option.bind_some, e3, Bool.not_true, cond_false]
        exact ⟨_, rfl, ⟨_, _, _, rfl, by omega, by omega, .inr ⟨by omega, by omega, rfl⟩⟩, by simp only; omega⟩
    · rw [if_neg hi]
      obtain rfl : i = n := by omega
      rcases hst with hst | ⟨g1, rfl, rfl⟩
      · omega
      · exact .inl ⟨_, rfl, by rw [Int.sub_self]⟩)
  obtain ⟨x, hx, rfl⟩ := key ((n, r, (), now, 0, ()), ((n, r, n, 0, ()), ())) ⟨0, n, 0, rfl, by omega, by omega, .inl ⟨rfl, rfl, rfl⟩⟩
  have e4 : wr .i64 (now + r) = now + r := wr64 (by omega) (by omega)
  have e5 : wr .i64 (now + r - 1) = now + r - 1 := wr64 (by omega) (by omega)
  have e6 : wr .i64 (n * r) = n * r := wr64 (by omega) (by omega)
  have e7 : wr .i64 (now + r + n * r) = now + r + n * r := wr64 (by omega) (by omega)
  have one : bucket_Bucket_Take (((), now + r, ()), ((n, r, 0, now, ()), ())) = some ((true, ()), ((n, r, 0, now + r, ()), ())) := by
    obtain ⟨l1', f1', b, l2, f2, et, hc, ht, g⟩ := take17 (n := n) (r := r) (l := 0) (f := now) (now := now + r) (by omega) (by omega) (by omega) (by omega) (by omega) (by omega)
    have hl1 : l1' = 1 ∧ f1' = now + r := by
      rcases hc with hc | ⟨q, p, q1, q2, q3, q4, q5, q6, q7, hc⟩
      · omega
      · have hq : q = 1 := quot17 (c := 1) (by omega) q2 q5 q6 (by omega) (by omega)
        subst hq
        omega
    rcases ht with ht | ⟨t1, t2, t3, t4⟩
    · omega
    · obtain rfl : l2 = 0 := by omega
      obtain rfl : f2 = now + r := by omega
      rw [et, t2]
  simp only [hx, Option.bind_some, e4, e5, e6, e7, empty now now (by omega) (by omega) (by omega) (by omega) (by omega), empty now (now + r - 1) (by omega) (by omega) (by omega) (by omega) (by omega), one, empty (now + r) (now + r) (by omega) (by omega) (by omega) (by omega) (by omega), cond_false, Bool.not_true, decide_true]
  generalize hlater : now + r + n * r = later
  have key2 := loop_ind (b := jobberlaw17_BucketFair_l15) (fun d => ∃ i l f, d = ((n, (), later, i, ()), ((n, r, l, f, ()), ())) ∧ 0 ≤ i ∧ i ≤ n ∧ ((i = 0 ∧ l = 0 ∧ f = now + r) ∨ (1 ≤ i ∧ l = n - i ∧ f = later))) (fun x => x = .inr (((), later, ()), ((n, r, 0, later, ()), ()))) (fun d => (n - d.1.2.2.2.1).toNat) (by
    rintro d ⟨i, l, f, rfl, i0, i1, hst⟩
    simp only [jobberlaw17_BucketFair_l15, odec_eq, Bool.cond_decide]
    by_cases hi : i < n
    · rw [if_pos hi]
      have e3 : wr .i64 (i + 1) = i + 1 := wr64 (by omega) (by omega)
      right
      rcases hst with ⟨rfl, rfl, rfl⟩ | ⟨g1, rfl, rfl⟩
      · simp only [full (now + r) later (by omega) (by omega) (by omega) (by omega) (by omega) 0 (by omega) (by omega) (.inr (by omega)), Option.bind_some, e3, Bool.not_true, cond_false]
        exact ⟨_, rfl, ⟨_, _, _, rfl, by omega, by omega, .inr ⟨by omega, by omega, rfl⟩⟩, by simp only; omega⟩
      · simp only [more f (n - i) (by omega) (by omega) (by omega) (by omega), Option.bind_some, e3, Bool.not_true, cond_false]
        exact ⟨_, rfl, ⟨_, _, _, rfl, by omega, by omega, .inr ⟨by omega, by omega, rfl⟩⟩, by simp only; omega⟩
    · rw [if_neg hi]
      obtain rfl : i = n := by omega
      rcases hst with hst | ⟨g1, rfl, rfl⟩
      · omega
      · exact .inl ⟨_, rfl, by rw [Int.sub_self]⟩)
  obtain ⟨y, hy, rfl⟩ := key2 ((n, (), later, 0, ()), ((n, r, 0, now + r, ()), ())) ⟨0, 0, now + r, rfl, by omega, by omega, .inl ⟨rfl, rfl, rfl⟩⟩
  simp [hy, empty later later (by omega) (by omega) (by omega) (by omega) (by omega), jobberlaw17_BucketRuns.law]

theorem imax_max (a b : Int) : imax a b = max a b := by
  simp only [imax, odec_eq, Bool.cond_decide]
  split <;> omega
theorem jobberlaw17_BucketLeft.law (a0 a1 : Int) (a2 : List Int) (h0 : Rng (.int .i64) a0) (h1 : Rng (.int .i64) a1) (h2 : Rng (.deep (.int .i64)) a2) : jobberlaw17_BucketLeft ((a0, a1, a2, ()), ()) = some ((true, ()), ()) := by
  obtain ⟨n, n1, n2, en⟩ := within17 (rng64 h0) (lo := 1) (hi := 9) (by omega) (by omega) (by omega) (by omega)
  obtain ⟨r, r1, r2, er⟩ := within17 (rng64 h1) (lo := 1) (hi := 30) (by omega) (by omega) (by omega) (by omega)
  have hq : ∀ x ∈ a2, -9223372036854775808 ≤ x ∧ x ≤ 9223372036854775807 := h2.2
  simp only [jobberlaw17_BucketLeft, en, er, Option.bind_some, new17 (t := n) (k := r) (by omega) (by omega) (by omega) (by omega), odec_eq, left17]
  have key := loop_ind (b := jobberlaw17_BucketLeft_l7) (fun d => ∃ i l f la, d = ((a2, n, r, (), la, i, ()), ((n, r, l, f, ()), ())) ∧ 0 ≤ i ∧ i ≤ 50 ∧ 0 ≤ l ∧ l ≤ n ∧ 0 ≤ f ∧ f ≤ 500 ∧ 0 ≤ la ∧ la ≤ 500 ∧ ((l = n ∧ f = 0 ∧ la = 0) ∨ (l < n ∧ la < f + r))) (fun r => ∃ d, r = .inr d) (fun d => (50 - d.1.2.2.2.2.2.1).toNat) (by
    rintro d ⟨i, l, f, la, rfl, i0, i1, l0, l1, f0, f1, la0, la1, hst⟩
    simp only [jobberlaw17_BucketLeft_l7, odec_eq, Bool.cond_decide, left17, Option.bind_some]
    by_cases hi : i < (a2.length : Int)
    · rw [if_pos hi]
      by_cases h40 : i < 50
      · rw [if_pos h40, if_pos i0]
        obtain ⟨x, ex, hx⟩ := get_int i0 hi
        obtain ⟨now, s0, s1, es⟩ := within17 (hq x hx) (lo := 0) (hi := 500) (by omega) (by omega) (by omega) (by omega)
        have e3 : wr .i64 (i + 1) = i + 1 := wr64 (by omega) (by omega)
        have e4 : wr .i64 (la - r) = la - r := wr64 (by omega) (by omega)
        have e5 : wr .i64 (l - 1) = l - 1 := wr64 (by omega) (by omega)
        obtain ⟨l1', f1', b, l2, f2, et, hc, ht, g1, g2, g3, g4⟩ := take17 (n := n) (r := r) (l := l) (f := f) (now := now) (by omega) (by omega) (by omega) (by omega) (by omega) (by omega)
        have hgo : 0 ≤ l2 ∧ l2 < n ∧ 0 ≤ f2 ∧ f2 ≤ 500 ∧ max la now < f2 + r := by
          rcases hc with hc | ⟨q, p, q1, q2, q3, q4, q5, q6, q7, hc⟩ <;> rcases ht with ht | ht <;> omega
        have hback : now ≤ la → l < n → now < la - r → l1' = l := by
          intro k1 k2 k3
          rcases hc with hc | ⟨q, p, q1, q2, q3, q4, q5, q6, q7, hc⟩ <;> omega
        simp only [ex, es, et, Option.bind_some, e3, e4, e5, imax_max, left17]
        right
        have fin : ∃ l', (some (.inl ((a2, n, r, (), max la now, i + 1, ()), ((n, r, l2, f2, ()), ()))) : Option ((((List Int) × Int × Int × Unit × Int × Int × Unit) × ((Int × Int × Int × Int × Unit) × Unit)) ⊕ (((Bool × Unit) × ((Int × Int × Int × Int × Unit) × Unit)) ⊕ ((Unit) × ((Int × Int × Int × Int × Unit) × Unit))))) = some (.inl l') ∧ (∃ i l f la, l' = ((a2, n, r, (), la, i, ()), ((n, r, l, f, ()), ())) ∧ 0 ≤ i ∧ i ≤ 50 ∧ 0 ≤ l ∧ l ≤ n ∧ 0 ≤ f ∧ f ≤ 500 ∧ 0 ≤ la ∧ la ≤ 500 ∧ ((l = n ∧ f = 0 ∧ la = 0) ∨ (l < n ∧ la < f + r))) ∧ (50 - l'.1.2.2.2.2.2.1).toNat < (50 - i).toNat :=
          ⟨_, rfl, ⟨_, _, _, _, rfl, by omega, by omega, by omega, by omega, by omega, by omega, by omega, by omega, .inr (by omega)⟩, by simp only; omega⟩
        rcases ht with ⟨t1, rfl, t3, t4⟩ | ⟨t1, rfl, t3, t4⟩
        · have eb : boolEq false (decide (l > 0)) = decide (¬ l > 0) := by by_cases h : l > 0 <;> simp [boolEq, h]
          simp only [eb, cond_false, cond_true, Bool.not_false, odec_eq, Bool.cond_decide, cond_not17]
          repeat' split
          all_goals first | exact fin | omega
        · have eb : boolEq true (decide (l > 0)) = decide (l > 0) := by by_cases h : l > 0 <;> simp [boolEq, h]
          simp only [eb, cond_false, cond_true, Bool.not_true, odec_eq, Bool.cond_decide, cond_not17]
          repeat' split
          all_goals first | exact fin | omega
      · rw [if_neg h40]; exact .inl ⟨_, rfl, _, rfl⟩
    · rw [if_neg hi]; exact .inl ⟨_, rfl, _, rfl⟩)
  obtain ⟨x, hr, d, rfl⟩ := key ((a2, n, r, (), 0, 0, ()), ((n, r, n, 0, ()), ())) ⟨0, n, 0, 0, rfl, by omega, by omega, by omega, by omega, by omega, by omega, by omega, by omega, .inl ⟨rfl, rfl, rfl⟩⟩
  simp [hr, jobberlaw17_BucketRuns.law]
abbrev at17 (W : List Int) (j : Nat) : Int := W.getD j 0
theorem at17_append {W : List Int} {x : Int} {j : Nat} : at17 (W ++ [x]) j = if j < W.length then at17 W j else if j = W.length then x else 0 := by
  simp only [at17, List.getD_eq_getElem?_getD, List.getElem?_append]
  by_cases h : j < W.length
  · simp [h]
  · rw [if_neg h, if_neg h]
    by_cases h2 : j = W.length
    · simp [h2]
    · rw [if_neg h2, List.getElem?_eq_none (by simp; omega)]; rfl
theorem at17_get {W : List Int} {j : Nat} (h : j < W.length) : W[j]? = some (at17 W j) := by simp [at17, List.getD_eq_getElem?_getD, List.getElem?_eq_getElem h]
/-- what is taken, and what is left, against what came -/
def J17 (n r l f : Int) (W : List Int) : Prop := ∀ i : Nat, i < W.length → ((W.length : Int) - i + l - n) * r ≤ f - at17 W i
def E17 (n r : Int) (W : List Int) : Prop := ∀ i k : Nat, i ≤ k → k < W.length → at17 W i ≤ at17 W k ∧ ((k : Int) - i + 1 - n) * r ≤ at17 W k - at17 W i
theorem came17 {n r l f now l1 f1 : Int} {W : List Int} (hr : 1 ≤ r) (h : J17 n r l f W) (hc : Came n r l f now l1 f1) : J17 n r l1 f1 W := by
  intro i hi
  have h0 := h i hi
  rcases hc with ⟨_, rfl, rfl⟩ | ⟨q, p, q1, q2, q3, q4, q5, q6, q7, ⟨c1, rfl, rfl⟩ | ⟨c1, rfl, rfl⟩⟩
  · exact h0
  · have e : ((W.length : Int) - i + l1 - l1) * r = ((W.length : Int) - i + l - l1) * r + (l1 - l) * r := by rw [← Int.add_mul]; congr 1; omega
    have := Int.mul_le_mul_of_nonneg_right (show l1 - l ≤ q by omega) (show 0 ≤ r by omega)
    omega
  · have e : ((W.length : Int) - i + (l + q) - n) * r = ((W.length : Int) - i + l - n) * r + q * r := by rw [← Int.add_mul]; congr 1; omega
    omega
theorem took17 {n r l1 f1 now l2 f2 : Int} {W : List Int} (hr : 1 ≤ r) (hW : ∀ i, i < W.length → at17 W i ≤ now) (hJ : J17 n r l1 f1 W) (hE : E17 n r W) (hl : l1 ≤ n) (hl2 : 0 ≤ l2) (hf : now < f1 + r) (hl3 : l2 = l1 - 1) (hf1 : f1 ≤ now) (ht : (l1 = n ∧ f1 ≤ f2 ∧ now ≤ f2 ∧ (f2 = f1 ∨ f2 = now)) ∨ (l1 ≠ n ∧ f2 = f1)) :
    J17 n r l2 f2 (W ++ [now]) ∧ E17 n r (W ++ [now]) := by
  have hlen : (W ++ [now]).length = W.length + 1 := by simp
  have old : ∀ j, j < W.length → at17 (W ++ [now]) j = at17 W j := fun j hj => by rw [at17_append, if_pos hj]
  have new : at17 (W ++ [now]) W.length = now := by rw [at17_append, if_neg (by omega), if_pos rfl]
  have hJ' : J17 n r l2 f2 (W ++ [now]) := by
    intro i hi
    rw [hlen] at hi ⊢
    by_cases h : i < W.length
    · rw [old i h]
      have h0 := hJ i h
      have e : (((W.length + 1 : Nat) : Int) - i + l2 - n) * r = ((W.length : Int) - i + l1 - n) * r := by congr 1; omega
      omega
    · obtain rfl : i = W.length := by omega
      rw [new]
      have e : (((W.length + 1 : Nat) : Int) - (W.length : Nat) + l2 - n) = l1 - n := by omega
      rw [e]
      rcases ht with ⟨rfl, t1, t2, t3⟩ | ⟨t1, rfl⟩
      · rw [Int.sub_self, Int.zero_mul]; omega
      · have := Int.mul_le_mul_of_nonneg_right (show l1 - n ≤ -1 by omega) (show 0 ≤ r by omega)
        omega
  refine ⟨hJ', fun i k hik hk => ?_⟩
  rw [hlen] at hk
  by_cases h : k < W.length
  · rw [old k h, old i (by omega)]; exact hE i k hik h
  · obtain rfl : k = W.length := by omega
    have h0 := hJ' i (by rw [hlen]; omega)
    rw [hlen] at h0
    rw [new]
    have hle : at17 (W ++ [now]) i ≤ now := by
      by_cases h : i < W.length
      · rw [old i h]; exact hW i h
      · obtain rfl : i = W.length := by omega
        rw [new]; exact Int.le_refl _
    refine ⟨hle, ?_⟩
    have e : (((W.length + 1 : Nat) : Int) - i + l2 - n) * r = ((W.length : Int) - i + 1 - n) * r + l2 * r := by rw [← Int.add_mul]; congr 1; omega
    have := Int.mul_nonneg hl2 (show 0 ≤ r by omega)
    omega
def I17 (q : List Int) (n r : Int) (d : ((List Int) × Int × Int × Unit × Int × Unit × Int × Unit) × ((Int × Int × Int × Int × Unit) × (List Int) × Unit)) : Prop :=
  ∃ now i l f W, d = ((q, n, r, (), now, (), i, ()), ((n, r, l, f, ()), W, ())) ∧ 0 ≤ i ∧ i ≤ 60 ∧ 0 ≤ now ∧ now ≤ 15 * i ∧ 0 ≤ l ∧ l ≤ n ∧ 0 ≤ f ∧ f ≤ now ∧ (W.length : Int) ≤ i ∧ (∀ j, j < W.length → 0 ≤ at17 W j ∧ at17 W j ≤ now) ∧ J17 n r l f W ∧ E17 n r W
theorem jobberlaw17_BucketBound.law (a0 a1 : Int) (a2 : List Int) (h0 : Rng (.int .i64) a0) (h1 : Rng (.int .i64) a1) (h2 : Rng (.deep (.int .i64)) a2) : jobberlaw17_BucketBound ((a0, a1, a2, ()), ()) = some ((true, ()), ()) := by
  obtain ⟨n, n1, n2, en⟩ := within17 (rng64 h0) (lo := 1) (hi := 6) (by omega) (by omega) (by omega) (by omega)
  obtain ⟨r, r1, r2, er⟩ := within17 (rng64 h1) (lo := 1) (hi := 12) (by omega) (by omega) (by omega) (by omega)
  have hq : ∀ x ∈ a2, -9223372036854775808 ≤ x ∧ x ≤ 9223372036854775807 := h2.2
  simp only [jobberlaw17_BucketBound, en, er, Option.bind_some, new17 (t := n) (k := r) (by omega) (by omega) (by omega) (by omega), odec_eq]
  have key := loop_ind (b := jobberlaw17_BucketBound_l8) (I17 a2 n r) (fun x => ∃ W h, x = .inr ((n, r, W, ()), h) ∧ W.length ≤ 60 ∧ (∀ j, j < W.length → 0 ≤ at17 W j ∧ at17 W j ≤ 900) ∧ E17 n r W) (fun d => (60 - d.1.2.2.2.2.2.2.1).toNat) (by
    rintro d ⟨now, i, l, f, W, rfl, i0, i1, m0, m1, l0, l1, f0, f1, hlen, hb, hJ, hE⟩
    have hend : ∃ W' h, (Sum.inr ((n, r, W, ()), ((n, r, l, f, ()), ())) : ((Bool × Unit) × ((Int × Int × Int × Int × Unit) × Unit)) ⊕ ((Int × Int × (List Int) × Unit) × ((Int × Int × Int × Int × Unit) × Unit))) = .inr ((n, r, W', ()), h) ∧ W'.length ≤ 60 ∧ (∀ j, j < W'.length → 0 ≤ at17 W' j ∧ at17 W' j ≤ 900) ∧ E17 n r W' :=
      ⟨W, _, rfl, by omega, fun j hj => by have := hb j hj; omega, hE⟩
    simp only [jobberlaw17_BucketBound_l8, odec_eq, Bool.cond_decide]
    by_cases hi : i < (a2.length : Int)
    · rw [if_pos hi]
      by_cases h40 : i < 60
      · rw [if_pos h40, if_pos i0]
        obtain ⟨x, ex, hx⟩ := get_int i0 hi
        obtain ⟨s, s0, s1, es⟩ := within17 (hq x hx) (lo := 0) (hi := 15) (by omega) (by omega) (by omega) (by omega)
        have e1 : wr .i64 (now + s) = now + s := wr64 (by omega) (by omega)
        have e3 : wr .i64 (i + 1) = i + 1 := wr64 (by omega) (by omega)
        obtain ⟨l1', f1', b, l2, f2, et, hc, ht, g1, g2, g3, g4⟩ := take17 (n := n) (r := r) (l := l) (f := f) (now := now + s) (by omega) (by omega) (by omega) (by omega) (by omega) (by omega)
        have hroom : ((W.length + [now + s].length : Nat) : Int) * (8 : Nat) ≤ room := by
          have : room = 70368744177664 := room_eq
          rw [this]; simp; omega
        have hJ1 := came17 r1 hJ hc
        have hf1 : now + s < f1' + r := by rcases hc with hc | ⟨q, p, q1, q2, q3, q4, q5, q6, q7, hc⟩ <;> omega
        simp only [ex, es, Option.bind_some, e1, e3, et, left17, cond_not17, odec_eq, Bool.cond_decide, if_pos hroom]
        right
        rcases ht with ⟨t1, rfl, t3, t4⟩ | ⟨t1, rfl, t3, t4⟩
        · simp only [cond_false]
          rw [if_neg (by omega), if_neg (by omega)]
          have hl21 : l2 = l1' := by omega
          subst hl21; subst t4
          exact ⟨_, rfl, ⟨_, _, _, _, _, rfl, by omega, by omega, by omega, by omega, by omega, by omega, by omega, by omega, by omega, fun j hj => by have := hb j hj; omega, hJ1, hE⟩, by simp only; omega⟩
        · simp only [cond_true]
          rw [if_neg (by omega), if_neg (by omega)]
          obtain ⟨k1, k2⟩ := took17 (now := now + s) r1 (fun j hj => by have := hb j hj; omega) hJ1 hE g2 (by omega) hf1 t3 (by omega) t4
          refine ⟨_, rfl, ⟨_, _, _, _, _, rfl, by omega, by omega, by omega, by omega, by omega, by omega, by omega, by omega, by simp; omega, fun j hj => ?_, k1, k2⟩, by simp only; omega⟩
          rw [at17_append]
          by_cases hjl : j < W.length
          · rw [if_pos hjl]; have := hb j hjl; omega
          · rw [if_neg hjl]; simp at hj; rw [if_pos (by omega)]; omega
      · rw [if_neg h40]; exact .inl ⟨_, rfl, hend⟩
    · rw [if_neg hi]; exact .inl ⟨_, rfl, hend⟩)
  obtain ⟨x, hr, W, h, rfl, wl, hb, hE⟩ := key ((a2, n, r, (), 0, (), 0, ()), ((n, r, n, 0, ()), ([] : List Int), ())) ⟨0, 0, n, 0, [], rfl, by omega, by omega, by omega, by omega, by omega, by omega, by omega, by omega, by simp, fun j hj => by simp at hj, fun j hj => by simp at hj, fun j k _ hk => by simp at hk⟩
  have inner : ∀ i : Int, 0 ≤ i → i < (W.length : Int) → ∃ x, loopFix (L := ((Int × Int × (List Int) × Int × Int × Int × Int × Unit) × (Unit))) jobberlaw17_BucketBound_l19 ((n, r, W, i, i, (W.length : Int), i, ()), ()) = some x ∧ x = .inr ((n, r, W, (W.length : Int), i, ()), ()) := by
    intro i i0 i1
    refine loop_ind (b := jobberlaw17_BucketBound_l19) (fun d => ∃ k : Int, d = ((n, r, W, i, k, (W.length : Int), i, ()), ()) ∧ i ≤ k ∧ k ≤ (W.length : Int)) (fun x => x = .inr ((n, r, W, (W.length : Int), i, ()), ())) (fun d => ((W.length : Int) - d.1.2.2.2.2.1).toNat) ?_ _ ⟨i, rfl, by omega, by omega⟩
    rintro d ⟨k, rfl, k0, k1⟩
    simp only [jobberlaw17_BucketBound_l19, odec_eq, Bool.cond_decide]
    by_cases hk : k < (W.length : Int)
    · rw [if_pos hk, if_pos (by omega)]
      have ek := at17_get (W := W) (j := k.toNat) (by omega)
      have ei := at17_get (W := W) (j := i.toNat) (by omega)
      have bk := hb k.toNat (by omega)
      have bi := hb i.toNat (by omega)
      obtain ⟨bm, bd⟩ := hE i.toNat k.toNat (by omega) (by omega)
      have e1 : wr .i64 (at17 W k.toNat - at17 W i.toNat) = at17 W k.toNat - at17 W i.toNat := wr64 (by omega) (by omega)
      simp only [ek, ei, Option.bind_some, e1, if_pos i0]
      rw [Int.tdiv_eq_ediv_of_nonneg (by omega)]
      have hv : k - i + 1 - n ≤ (at17 W k.toNat - at17 W i.toNat) / r := Int.le_ediv_of_mul_le (by omega) (by
        have : ((k.toNat : Int) - (i.toNat : Int) + 1 - n) = k - i + 1 - n := by omega
        rw [this] at bd; exact bd)
      have hv0 : 0 ≤ (at17 W k.toNat - at17 W i.toNat) / r := Int.ediv_nonneg (by omega) (by omega)
      have hv1 : (at17 W k.toNat - at17 W i.toNat) / r ≤ at17 W k.toNat - at17 W i.toNat := Int.ediv_le_self _ (by omega)
      generalize (at17 W k.toNat - at17 W i.toNat) / r = v at hv hv0 hv1
      have e2 : wr .i64 v = v := wr64 (by omega) (by omega)
      have e3 : wr .i64 (n + v) = n + v := wr64 (by omega) (by omega)
      have e5 : wr .i64 (k - i) = k - i := wr64 (by omega) (by omega)
      have e6 : wr .i64 (k - i + 1) = k - i + 1 := wr64 (by omega) (by omega)
      have e7 : wr .i64 (k + 1) = k + 1 := wr64 (by omega) (by omega)
      simp only [e2, e3, e5, e6, e7]
      rw [if_neg (by omega), if_neg (by omega)]
      exact .inr ⟨_, rfl, ⟨_, rfl, by omega, by omega⟩, by simp only; omega⟩
    · rw [if_neg hk]; exact .inl ⟨_, rfl, rfl⟩
  have key2 := loop_ind (b := jobberlaw17_BucketBound_l16) (fun d => ∃ i : Int, d = ((n, r, W, (W.length : Int), i, ()), ()) ∧ 0 ≤ i ∧ i ≤ (W.length : Int)) (fun r => ∃ d, r = .inr d) (fun d => ((W.length : Int) - d.1.2.2.2.2.1).toNat) (by
    rintro d ⟨i, rfl, i0, i1⟩
    simp only [jobberlaw17_BucketBound_l16, odec_eq, Bool.cond_decide]
    by_cases hi : i < (W.length : Int)
    · rw [if_pos hi]
      obtain ⟨x, hr, rfl⟩ := inner i i0 hi
      have e7 : wr .i64 (i + 1) = i + 1 := wr64 (by omega) (by omega)
      simp only [hr, Option.bind_some, e7]
      exact .inr ⟨_, rfl, ⟨_, rfl, by omega, by omega⟩, by simp only; omega⟩
    · rw [if_neg hi]; exact .inl ⟨_, rfl, _, rfl⟩)
  obtain ⟨x, hr2, d, rfl⟩ := key2 ((n, r, W, (W.length : Int), 0, ()), ()) ⟨0, rfl, by omega, by omega⟩
  simp [hr, hr2, jobberlaw17_BucketRuns.law]
end AM
