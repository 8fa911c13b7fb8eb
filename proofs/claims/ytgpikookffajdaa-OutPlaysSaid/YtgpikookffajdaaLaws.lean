/- The laws of chapter 22, in plain Lean. -/
import Derived.Test.YtgpikookffajdaaPrn
set_option linter.unusedVariables false
set_option linter.unusedSimpArgs false
namespace AM
open Go
set_option maxRecDepth 100000
theorem within22 {v lo hi : Int} (hv : -9223372036854775808 ≤ v ∧ v ≤ 9223372036854775807) (h0 : -4611686018427387904 ≤ lo) (h1 : lo ≤ hi) (h2 : hi ≤ 4611686018427387902) (h3 : hi - lo < 4611686018427387904) :
    ∃ r, lo ≤ r ∧ r ≤ hi ∧ jobberbook_Within ((v, lo, hi, ()), ()) = some ((r, ()), ()) := within_ok hv h0 h1 h2 h3
/-! ### words for bytes -/
theorem roomI : ((room : Nat) : Int) = 70368744177664 := by rw [room_eq]; rfl
theorem inRoom {n : Int} (h : n ≤ 70368744177664) : odec (n * ((1 : Nat) : Int) ≤ (room : Nat)) = true := ot (by rw [roomI]; omega)
theorem clone_ok (xs : List Int) (h : xs.length ≤ 70368744177664) : slices_Clone_byte_byte ((xs, ()), ()) = some (((), ()), (xs, ())) := by
  have e : odec (((([] : List Int).length + xs.length : Nat) : Int) * ((1 : Nat) : Int) ≤ (room : Nat)) = true := inRoom (by simp only [List.length_nil]; omega)
  simp only [slices_Clone_byte_byte, e, cond_true, List.nil_append]
  by_cases h0 : (xs.length : Int) = 0
  · have hx : xs = [] := List.eq_nil_of_length_eq_zero (by omega)
    subst hx
    rw [ot h0, cond_true, ot rfl, cond_true]
  · rw [of_ h0, cond_false]
theorem take_flat {L : List (List Int)} {i : Nat} {x : List Int} (h : L[i]? = some x) : (L.take (i + 1)).flatten = (L.take i).flatten ++ x := by
  rw [List.take_add_one, h]; simp
theorem flat_le {L : List (List Int)} (i : Nat) : (L.take i).flatten.length ≤ L.flatten.length := by
  have : L.flatten = (L.take i).flatten ++ (L.drop i).flatten := by rw [← List.flatten_append, List.take_append_drop]
  rw [this, List.length_append]; omega
theorem sum_ok (L : List (List Int)) (h : L.flatten.length ≤ 70368744177664) (hn : L.length ≤ 70368744177664) : loopFix slices_Concat_byte_byte_l3 ((L, 0, L, (L.length : Int), 0, ()), ()) = some ((L, (L.flatten.length : Int), ()), ()) := by
  have key := loop_ind (b := slices_Concat_byte_byte_l3) (fun d => ∃ i : Nat, d = ((L, ((L.take i).flatten.length : Int), L, (L.length : Int), (i : Int), ()), ()) ∧ i ≤ L.length) (fun r => r = ((L, (L.flatten.length : Int), ()), ())) (fun d => (L.length : Int).toNat - d.1.2.2.2.2.1.toNat) (by
    rintro d ⟨i, rfl, hi⟩
    by_cases h1 : i < L.length
    · right
      have ex := List.getElem?_eq_getElem h1
      have e1 : wr .i64 ((i : Int) + 1) = ((i + 1 : Nat) : Int) := by rw [wr64 (by omega) (by omega)]; omega
      have e2 : wr .i64 (((L.take i).flatten.length : Int) + (L[i].length : Int)) = ((L.take (i + 1)).flatten.length : Int) := by
        have := flat_le (L := L) (i + 1)
        rw [take_flat ex, List.length_append] at this ⊢
        rw [wr64 (by omega) (by omega)]; omega
      refine ⟨((L, ((L.take (i + 1)).flatten.length : Int), L, (L.length : Int), ((i + 1 : Nat) : Int), ()), ()), ?_, ⟨i + 1, rfl, by omega⟩, by simp only; omega⟩
      simp only [slices_Concat_byte_byte_l3, ot (show (i : Int) < (L.length : Int) by omega), ot (show (0 : Int) ≤ (i : Int) by omega), cond_true, Int.toNat_natCast, ex, Option.bind_some, e1, e2, of_ (show ¬ (((L.take (i + 1)).flatten.length : Int)) < 0 by omega), cond_false]
    · left
      have : i = L.length := by omega
      subst this
      exact ⟨_, by simp only [slices_Concat_byte_byte_l3, of_ (show ¬ (L.length : Int) < (L.length : Int) by omega), cond_false, List.take_length], rfl⟩)
  obtain ⟨r, hr, rfl⟩ := key ((L, 0, L, (L.length : Int), 0, ()), ()) ⟨0, by simp, by omega⟩
  exact hr
theorem grow_ok (n : Nat) (h : n ≤ 70368744177664) : slices_Grow_byte_byte (((), (n : Int), ()), ()) = some (if 0 < n then .inl ((0, ()), (List.replicate n (0 : Int), ())) else .inr (((), ()), ([], ()))) := by
  have w0 : wr .i64 (0 - 0) = 0 := wr64 (by omega) (by omega)
  have w1 : wr .i64 ((n : Int) - 0) = (n : Int) := by rw [wr64 (by omega) (by omega)]; omega
  have e1 : (0 : Int) ≤ (n : Int) ∧ ((([] : List Int).length : Int) + (n : Int)) * ((1 : Nat) : Int) ≤ (room : Nat) := by rw [roomI]; simp only [List.length_nil]; omega
  have e2 : (0 : Int) ≤ (0 : Int) ∧ (0 : Int) ≤ (0 : Int) ∧ (0 : Int) ≤ ((([] : List Int) ++ List.replicate ((n : Int)).toNat (0 : Int)).length : Int) := by omega
  simp only [slices_Grow_byte_byte, w0, w1, of_ (show ¬ (n : Int) < 0 by omega), cond_false, ot (show (0 : Int) = 0 ∧ (0 : Int) = 0 from ⟨rfl, rfl⟩), cond_true, ot e1, Int.toNat_natCast, and_self, odT, List.nil_append, ot (show (0 : Int) ≤ 0 by omega), ot (show (0 : Int) ≤ 0 ∧ (0 : Int) ≤ 0 ∧ (0 : Int) ≤ ((List.replicate n (0 : Int)).length : Int) by omega)]
  by_cases hn : 0 < n
  · rw [if_pos hn, ot (show (n : Int) > 0 by omega)]; rfl
  · rw [if_neg hn, of_ (show ¬ (n : Int) > 0 by omega)]; rfl
theorem put_ok (L : List (List Int)) (h : L.flatten.length ≤ 70368744177664) (hn : L.length ≤ 70368744177664) : loopFix slices_Concat_byte_byte_l11 ((0, L, (L.length : Int), 0, ()), (List.replicate L.flatten.length (0 : Int), ())) = some ((L.flatten, ()), ()) := by
  have key := loop_ind (b := slices_Concat_byte_byte_l11) (fun d => ∃ (i : Nat) (R : List Int), d = (((L.take i).flatten.length, L, (L.length : Int), (i : Int), ()), (R, ())) ∧ i ≤ L.length ∧ R.length = L.flatten.length ∧ R.take (L.take i).flatten.length = (L.take i).flatten) (fun r => r = ((L.flatten, ()), ())) (fun d => (L.length : Int).toNat - d.1.2.2.2.1.toNat) (by
    rintro d ⟨i, R, rfl, hi, hR, hT⟩
    by_cases h1 : i < L.length
    · right
      have ex := List.getElem?_eq_getElem h1
      have e1 : wr .i64 ((i : Int) + 1) = ((i + 1 : Nat) : Int) := by rw [wr64 (by omega) (by omega)]; omega
      have hf := take_flat ex
      have hle := flat_le (L := L) (i + 1)
      rw [hf, List.length_append] at hle
      have hc : 0 + (L.take i).flatten.length + L[i].length ≤ R.length := by omega
      refine ⟨(((L.take (i + 1)).flatten.length, L, (L.length : Int), ((i + 1 : Nat) : Int), ()), (R.take (0 + (L.take i).flatten.length) ++ L[i] ++ R.drop ((0 + (L.take i).flatten.length) + L[i].length), ())), ?_, ⟨i + 1, _, rfl, by omega, ?_, ?_⟩, by simp only; omega⟩
      · simp only [slices_Concat_byte_byte_l11, ot (show (i : Int) < (L.length : Int) by omega), ot (show (0 : Int) ≤ (i : Int) by omega), cond_true, Int.toNat_natCast, ex, Option.bind_some, e1, ot hc, hf, List.length_append]
      · simp only [List.length_append, List.length_take, List.length_drop]; omega
      · rw [hf, Nat.zero_add, hT, List.append_assoc]
        rw [List.length_append, ← List.append_assoc, List.take_append_of_le_length (by rw [List.length_append]; omega)]
        exact List.take_of_length_le (by rw [List.length_append]; omega)
    · left
      have : i = L.length := by omega
      subst this
      rw [List.take_length] at hT
      exact ⟨_, by simp only [slices_Concat_byte_byte_l11, of_ (show ¬ (L.length : Int) < (L.length : Int) by omega), cond_false, List.take_length, hT], rfl⟩)
  obtain ⟨r, hr, rfl⟩ := key ((0, L, (L.length : Int), 0, ()), (List.replicate L.flatten.length (0 : Int), ())) ⟨0, _, rfl, by omega, List.length_replicate, by simp only [List.take_zero, List.flatten_nil, List.length_nil]⟩
  exact hr
theorem put0_ok (L : List (List Int)) (h : L.flatten.length = 0) (hn : L.length ≤ 70368744177664) : loopFix slices_Concat_byte_byte_l11b (((), L, (L.length : Int), 0, ()), ([], ())) = some (([], ()), ()) := by
  have hz : ∀ x ∈ L, x = [] := by
    intro x hx
    obtain ⟨a, b, rfl⟩ := List.append_of_mem hx
    rw [List.flatten_append, List.flatten_cons, List.length_append, List.length_append] at h
    exact List.eq_nil_of_length_eq_zero (by omega)
  have key := loop_ind (b := slices_Concat_byte_byte_l11b) (fun d => ∃ (i : Nat), d = (((), L, (L.length : Int), (i : Int), ()), ([], ())) ∧ i ≤ L.length) (fun r => r = (([], ()), ())) (fun d => (L.length : Int).toNat - d.1.2.2.2.1.toNat) (by
    rintro d ⟨i, rfl, hi⟩
    by_cases h1 : i < L.length
    · right
      have ex : L[i]? = some [] := by rw [List.getElem?_eq_getElem h1, hz _ (List.getElem_mem h1)]
      have e1 : wr .i64 ((i : Int) + 1) = ((i + 1 : Nat) : Int) := by rw [wr64 (by omega) (by omega)]; omega
      have e2 : odec (((([] : List Int).length + ([] : List Int).length : Nat) : Int) * ((1 : Nat) : Int) ≤ (room : Nat)) = true := inRoom (by simp)
      refine ⟨(((), L, (L.length : Int), ((i + 1 : Nat) : Int), ()), ([], ())), ?_, ⟨i + 1, rfl, by omega⟩, by simp only; omega⟩
      simp only [slices_Concat_byte_byte_l11b, ot (show (i : Int) < (L.length : Int) by omega), ot (show (0 : Int) ≤ (i : Int) by omega), cond_true, Int.toNat_natCast, ex, Option.bind_some, e1, e2, List.append_nil]
    · left
      have : i = L.length := by omega
      subst this
      exact ⟨_, by simp only [slices_Concat_byte_byte_l11b, of_ (show ¬ (L.length : Int) < (L.length : Int) by omega), cond_false], rfl⟩)
  obtain ⟨r, hr, rfl⟩ := key (((), L, (L.length : Int), 0, ()), ([], ())) ⟨0, rfl, by omega⟩
  exact hr
theorem concat_ok (L : List (List Int)) (h : L.flatten.length ≤ 70368744177664) (hn : L.length ≤ 70368744177664) : slices_Concat_byte_byte ((L, ()), ()) = some ((L.flatten, ()), ()) := by
  simp only [slices_Concat_byte_byte, sum_ok L h hn, Option.bind_some, grow_ok _ h]
  by_cases h0 : 0 < L.flatten.length
  · rw [if_pos h0]
    simp only [put_ok L h hn, Option.bind_some]
  · rw [if_neg h0]
    have e : L.flatten.length = 0 := by omega
    simp only [put0_ok L e hn, Option.bind_some, List.eq_nil_of_length_eq_zero e]
theorem same_ok (a b : List Int) (h : a.length ≤ 140737488355328) : jobberbook_Same_byte ((a, b, ()), ()) = some ((odec (a = b), ()), ()) := by
  by_cases hl : (a.length : Int) = (b.length : Int)
  · have key := loop_ind (b := jobberbook_Same_byte_l4) (fun d => ∃ i : Nat, d = ((a, b, (i : Int), ()), ()) ∧ i ≤ a.length ∧ a.take i = b.take i) (fun r => (r = .inr ((), ()) ∧ a = b) ∨ (r = .inl ((false, ()), ()) ∧ a ≠ b)) (fun d => (a.length : Int).toNat - d.1.2.2.1.toNat) (by
      rintro d ⟨i, rfl, hi, ht⟩
      by_cases h1 : i < a.length
      · have ea := List.getElem?_eq_getElem h1
        have h2 : i < b.length := by omega
        have eb := List.getElem?_eq_getElem h2
        have e1 : wr .i64 ((i : Int) + 1) = ((i + 1 : Nat) : Int) := by rw [wr64 (by omega) (by omega)]; omega
        by_cases he : a[i] = b[i]
        · right
          refine ⟨((a, b, ((i + 1 : Nat) : Int), ()), ()), ?_, ⟨i + 1, rfl, by omega, ?_⟩, by simp only; omega⟩
          · simp only [jobberbook_Same_byte_l4, ot (show (i : Int) < (a.length : Int) by omega), ot (show (0 : Int) ≤ (i : Int) by omega), cond_true, Int.toNat_natCast, ea, eb, Option.bind_some, e1, ot he, Bool.not_true, cond_false]
          · rw [List.take_add_one, List.take_add_one, ea, eb, ht, he]
        · left
          refine ⟨.inl ((false, ()), ()), ?_, .inr ⟨rfl, fun e => he (by subst e; rfl)⟩⟩
          simp only [jobberbook_Same_byte_l4, ot (show (i : Int) < (a.length : Int) by omega), ot (show (0 : Int) ≤ (i : Int) by omega), cond_true, Int.toNat_natCast, ea, eb, Option.bind_some, of_ he, Bool.not_false]
      · left
        have e : i = a.length := by omega
        subst e
        refine ⟨.inr ((), ()), by simp only [jobberbook_Same_byte_l4, of_ (show ¬ (a.length : Int) < (a.length : Int) by omega), cond_false], .inl ⟨rfl, ?_⟩⟩
        rw [List.take_length] at ht
        rw [ht]; exact List.take_of_length_le (by omega))
    obtain ⟨r, hr, q⟩ := key ((a, b, 0, ()), ()) ⟨0, rfl, by omega, rfl⟩
    simp only [jobberbook_Same_byte, ot hl, Bool.not_true, cond_false, hr, Option.bind_some]
    rcases q with ⟨rfl, q⟩ | ⟨rfl, q⟩
    · simp only [ot q]
    · simp only [of_ q]
  · have : a ≠ b := fun e => hl (by rw [e])
    simp only [jobberbook_Same_byte, of_ hl, Bool.not_false, cond_true, of_ this]
theorem roomy_ok (xs : List Int) (m : Int) (h : xs.length ≤ 1000000) : jobberbook_Roomy_byte ((xs, m, ()), ()) = some ((xs ++ List.replicate 80 m, ()), ()) := by
  have w : wr .i64 ((xs.length : Int) + 80) = ((xs.length + 80 : Nat) : Int) := by rw [wr64 (by omega) (by omega)]; omega
  have key := loop_ind (b := jobberbook_Roomy_byte_l4) (fun d => ∃ (i : Nat) (R : List Int), d = ((m, (), (i : Int), ()), (R, ())) ∧ xs.length ≤ i ∧ i ≤ xs.length + 80 ∧ R.length = xs.length + 80 ∧ R.take i = xs ++ List.replicate (i - xs.length) m) (fun r => r = ((xs ++ List.replicate 80 m, ()), ())) (fun d => xs.length + 80 - d.1.2.2.1.toNat) (by
    rintro d ⟨i, R, rfl, h0, h1, hR, hT⟩
    by_cases hi : i < xs.length + 80
    · right
      have hl : i < R.length := by omega
      have e1 : wr .i64 ((i : Int) + 1) = ((i + 1 : Nat) : Int) := by rw [wr64 (by omega) (by omega)]; omega
      refine ⟨((m, (), ((i + 1 : Nat) : Int), ()), (R.set i m, ())), ?_, ⟨i + 1, _, rfl, by omega, by omega, by rw [List.length_set]; exact hR, ?_⟩, by simp only; omega⟩
      · simp only [jobberbook_Roomy_byte_l4, ot (show (i : Int) < (R.length : Int) by omega), ot (show (0 : Int) ≤ (i : Int) ∧ (i : Int) < (R.length : Int) by omega), cond_true, Int.toNat_natCast, List.getElem?_eq_getElem hl, Option.bind_some, e1]
      · rw [List.take_add_one, List.getElem?_set_self hl, List.take_set_of_le (by omega), hT, show i + 1 - xs.length = (i - xs.length) + 1 by omega, List.replicate_succ']
        simp
    · left
      have : i = xs.length + 80 := by omega
      subst this
      refine ⟨_, by simp only [jobberbook_Roomy_byte_l4, of_ (show ¬ ((xs.length + 80 : Nat) : Int) < (R.length : Int) by omega), cond_false]; rfl, ?_⟩
      rw [List.take_of_length_le (by omega)] at hT
      rw [hT, Nat.add_sub_cancel_left])
  obtain ⟨r, hr, rfl⟩ := key ((m, (), (xs.length : Int), ()), ((xs.take (List.replicate (((xs.length + 80 : Nat) : Int)).toNat (0 : Int)).length ++ (List.replicate (((xs.length + 80 : Nat) : Int)).toNat (0 : Int)).drop xs.length), ())) ⟨xs.length, _, rfl, by omega, by omega, by simp; omega, by
    rw [List.length_replicate, Int.toNat_natCast, List.take_of_length_le (show xs.length ≤ xs.length + 80 by omega), List.take_append_of_le_length (Nat.le_refl _), List.take_length, Nat.sub_self]; simp⟩
  have hroom : ((xs.length + 80 : Nat) : Int) = ((xs.length + 80 : Nat) : Int) ∧ (0 : Int) ≤ ((xs.length + 80 : Nat) : Int) ∧ ((xs.length + 80 : Nat) : Int) * ((1 : Nat) : Int) ≤ (room : Nat) := by rw [roomI]; omega
  simp only [jobberbook_Roomy_byte, w, true_and, ot hroom.2, cond_true, hr, Option.bind_some]
theorem intact_ok (xs : List Int) (m : Int) (h : xs.length ≤ 1000000) : jobberbook_Intact_byte ((xs ++ List.replicate 80 m, xs, m, ()), ()) = some ((true, ()), ()) := by
  have w : wr .i64 ((xs.length : Int) + 80) = ((xs.length + 80 : Nat) : Int) := by rw [wr64 (by omega) (by omega)]; omega
  have hl : (xs ++ List.replicate 80 m).length = xs.length + 80 := by simp
  have key := loop_ind (b := jobberbook_Intact_byte_l4) (fun d => ∃ (i : Nat), d = ((xs ++ List.replicate 80 m, m, (i : Int), ()), ()) ∧ xs.length ≤ i ∧ i ≤ xs.length + 80) (fun r => r = .inr ((), ())) (fun d => xs.length + 80 - d.1.2.2.1.toNat) (by
    rintro d ⟨i, rfl, h0, h1⟩
    by_cases hi : i < xs.length + 80
    · right
      have e1 : wr .i64 ((i : Int) + 1) = ((i + 1 : Nat) : Int) := by rw [wr64 (by omega) (by omega)]; omega
      have ex : (xs ++ List.replicate 80 m)[i]? = some m := by
        rw [List.getElem?_append_right h0, List.getElem?_replicate, if_pos (by omega)]
      refine ⟨((xs ++ List.replicate 80 m, m, ((i + 1 : Nat) : Int), ()), ()), ?_, ⟨i + 1, rfl, by omega, by omega⟩, by simp only; omega⟩
      simp only [jobberbook_Intact_byte_l4, ot (show (i : Int) < ((xs ++ List.replicate 80 m).length : Int) by omega), ot (show (0 : Int) ≤ (i : Int) by omega), cond_true, Int.toNat_natCast, ex, Option.bind_some, e1, odT, Bool.not_true, cond_false]
    · left
      exact ⟨_, by simp only [jobberbook_Intact_byte_l4, of_ (show ¬ (i : Int) < ((xs ++ List.replicate 80 m).length : Int) by omega), cond_false], rfl⟩)
  obtain ⟨r, hr, rfl⟩ := key ((xs ++ List.replicate 80 m, m, (xs.length : Int), ()), ()) ⟨xs.length, rfl, by omega, by omega⟩
  have ht : (xs ++ List.replicate 80 m).take (xs.length : Int).toNat = xs := by rw [Int.toNat_natCast, List.take_append_of_le_length (Nat.le_refl _), List.take_length]
  simp only [jobberbook_Intact_byte, w, ot (show ((xs ++ List.replicate 80 m).length : Int) = ((xs.length + 80 : Nat) : Int) by omega), Bool.not_true, cond_false, ot (show (0 : Int) ≤ (0 : Int) ∧ (0 : Int) ≤ (xs.length : Int) ∧ (xs.length : Int) ≤ ((xs ++ List.replicate 80 m).length : Int) by omega), cond_true, ht, same_ok xs xs (by omega), Option.bind_some, odT, hr]
noncomputable def pushO (b : List Int) (o : Bool) (x : List Int) : Bool × List Int × Bool := bif o then (false, b, true) else bif odec (b.length + x.length ≤ 4096) then (true, b ++ x, false) else (false, b, true)
def kk (n : Int) (b : List Int) : Nat := if n < 0 then 0 else if n > (b.length : Int) then b.length else n.toNat
theorem kk_le (n : Int) (b : List Int) : kk n b ≤ b.length := by unfold kk; split <;> (try split) <;> omega
theorem kk1 (n : Int) (b : List Int) : imax 0 (imin n (b.length : Int)) = (kk n b : Int) := by
  have h : imin n (b.length : Int) = if (b.length : Int) < n then (b.length : Int) else n := by
    rw [imin]; by_cases h : (b.length : Int) < n
    · rw [ot h, if_pos h]; rfl
    · rw [of_ h, if_neg h]; rfl
  rw [h, imax]
  unfold kk
  by_cases h1 : (b.length : Int) < n
  · rw [if_pos h1, if_neg (by omega), if_pos (by omega)]
    by_cases h2 : (b.length : Int) > 0
    · rw [ot h2]; rfl
    · rw [of_ h2]; simp only [cond_false]; omega
  · rw [if_neg h1]
    by_cases h2 : n < 0
    · rw [if_pos h2, of_ (by omega)]; rfl
    · rw [if_neg h2, if_neg (by omega)]
      by_cases h3 : n > 0
      · rw [ot h3]; simp only [cond_true]; omega
      · rw [of_ h3]; simp only [cond_false]; omega
theorem kk2 (n : Int) (b : List Int) : imin (imax n 0) (b.length : Int) = (kk n b : Int) := by
  have h : imax n 0 = if n < 0 then 0 else n := by
    rw [imax]; by_cases h : n < 0
    · rw [ot (show (0 : Int) > n by omega), if_pos h]; rfl
    · rw [of_ (show ¬ (0 : Int) > n by omega), if_neg h]; rfl
  rw [h, imin]
  unfold kk
  by_cases h2 : n < 0
  · rw [if_pos h2, if_pos h2, of_ (by omega)]; rfl
  · rw [if_neg h2, if_neg h2]
    by_cases h1 : (b.length : Int) < n
    · rw [if_pos (by omega), ot h1]; rfl
    · rw [if_neg (by omega), of_ h1]; simp only [cond_false]; omega
theorem push22 (b : List Int) (o : Bool) (x : List Int) (hb : b.length ≤ 4096) : out_Out_Push (((), x, ()), ((b, o, ()), ())) = some (((pushO b o x).1, ()), (((pushO b o x).2.1, (pushO b o x).2.2, ()), ())) := by
  cases o with
  | true => rfl
  | false =>
    have w : wr .i64 (4096 - (b.length : Int)) = 4096 - (b.length : Int) := wr64 (by omega) (by omega)
    by_cases h : b.length + x.length ≤ 4096
    · have c := concat_ok [b, x] (by simp; omega) (by simp)
      simp only [out_Out_Push, cond_false, w, of_ (show ¬ (x.length : Int) > 4096 - (b.length : Int) by omega), c, Option.bind_some, pushO, ot h, cond_true]
      simp
    · simp only [out_Out_Push, cond_false, w, ot (show (x.length : Int) > 4096 - (b.length : Int) by omega), cond_true, pushO, of_ h]
theorem refPush22 (b : List Int) (o : Bool) (x : List Int) (hb : b.length ≤ 4096) : jobberref19_Out_Push (((), x, ()), ((b, o, ()), ())) = some (((pushO b o x).1, ()), (((pushO b o x).2.1, (pushO b o x).2.2, ()), ())) := by
  cases o with
  | true => rfl
  | false =>
    have w : wr .i64 (4096 - (b.length : Int)) = 4096 - (b.length : Int) := wr64 (by omega) (by omega)
    by_cases h : b.length + x.length ≤ 4096
    · have c1 : odec (((([] : List Int).length + b.length : Nat) : Int) * ((1 : Nat) : Int) ≤ (room : Nat)) = true := inRoom (by simp only [List.length_nil]; omega)
      have c2 : odec (((b.length + x.length : Nat) : Int) * ((1 : Nat) : Int) ≤ (room : Nat)) = true := inRoom (by omega)
      simp only [jobberref19_Out_Push, cond_false, w, of_ (show ¬ (x.length : Int) > 4096 - (b.length : Int) by omega), c1, List.nil_append, c2, cond_true, pushO, ot h]
    · simp only [jobberref19_Out_Push, cond_false, w, ot (show (x.length : Int) > 4096 - (b.length : Int) by omega), cond_true, pushO, of_ h]
theorem drain22 (n : Int) (b : List Int) (o : Bool) (hb : b.length ≤ 1000000) : out_Out_Drain (((), n, ()), ((b, o, ()), ())) = some (((), ()), ((b.drop (kk n b), o, ()), b.take (kk n b), ())) := by
  have hk := kk_le n b
  simp only [out_Out_Drain, kk1, ot (show (0 : Int) ≤ (0 : Int) ∧ (0 : Int) ≤ (kk n b : Int) ∧ (kk n b : Int) ≤ (b.length : Int) by omega), cond_true, Int.toNat_natCast, clone_ok _ (show (b.take (kk n b)).length ≤ 70368744177664 by rw [List.length_take]; omega), Option.bind_some, ot (show (0 : Int) ≤ (kk n b : Int) ∧ (kk n b : Int) ≤ (b.length : Int) ∧ (b.length : Int) ≤ (b.length : Int) by omega), clone_ok _ (show (b.drop (kk n b)).length ≤ 70368744177664 by rw [List.length_drop]; omega)]
theorem refDrain22 (n : Int) (b : List Int) (o : Bool) (hb : b.length ≤ 1000000) : jobberref19_Out_Drain (((), n, ()), ((b, o, ()), ())) = some (((), ()), ((b.drop (kk n b), o, ()), b.take (kk n b), ())) := by
  have hk := kk_le n b
  have c1 : odec (((([] : List Int).length + (b.take (kk n b)).length : Nat) : Int) * ((1 : Nat) : Int) ≤ (room : Nat)) = true := inRoom (by simp only [List.length_nil, List.length_take]; omega)
  have c2 : odec (((([] : List Int).length + (b.drop (kk n b)).length : Nat) : Int) * ((1 : Nat) : Int) ≤ (room : Nat)) = true := inRoom (by simp only [List.length_nil, List.length_drop]; omega)
  simp only [jobberref19_Out_Drain, kk2, ot (show (0 : Int) ≤ (0 : Int) ∧ (0 : Int) ≤ (kk n b : Int) ∧ (kk n b : Int) ≤ (b.length : Int) by omega), cond_true, Int.toNat_natCast, c1, c2, ot (show (0 : Int) ≤ (kk n b : Int) ∧ (kk n b : Int) ≤ (b.length : Int) ∧ (b.length : Int) ≤ (b.length : Int) by omega), List.nil_append]
theorem push_le (b : List Int) (o : Bool) (x : List Int) (hb : b.length ≤ 4096) : (pushO b o x).2.1.length ≤ 4096 := by
  unfold pushO
  cases o with
  | true => exact hb
  | false =>
    by_cases h : b.length + x.length ≤ 4096
    · rw [ot h]; simp only [cond_false, cond_true, List.length_append]; omega
    · rw [of_ h]; exact hb
theorem jobberlaw22_OutRuns.law : jobberlaw22_OutRuns ((), ()) = some ((true, ()), ()) := by
  have p1 : pushO [] false [1, 2, 3] = (true, [1, 2, 3], false) := by simp [pushO, odec_eq]
  have p2 : pushO [] false (List.replicate (4097 : Int).toNat (0 : Int)) = (false, [], true) := by
    have : (4097 : Int).toNat = 4097 := rfl
    simp only [pushO, cond_false, List.length_nil, List.length_replicate, this, of_ (show ¬ 0 + 4097 ≤ 4096 by omega)]
  have p3 : pushO [] true [1] = (false, [], true) := rfl
  have q1 := push22 [] false [1, 2, 3] (by simp)
  have q2 := push22 [] false (List.replicate (4097 : Int).toNat (0 : Int)) (by simp)
  have q3 := push22 [] true [1] (by simp)
  rw [p1] at q1; rw [p2] at q2; rw [p3] at q3
  have d1 := drain22 2 [1, 2, 3] false (by simp)
  have d2 := drain22 9 [3] false (by simp)
  have k1 : kk 2 [1, 2, 3] = 2 := by simp [kk]
  have k2 : kk 9 [3] = 1 := by simp [kk]
  rw [k1] at d1; rw [k2] at d2
  simp only [List.drop, List.take] at d1 d2
  have s1 := same_ok [1, 2] [1, 2] (by simp)
  have s2 := same_ok [3] [3] (by simp)
  rw [ot rfl] at s1 s2
  have hr : (4097 : Int) = (4097 : Int) ∧ (0 : Int) ≤ (4097 : Int) ∧ (4097 : Int) * ((1 : Nat) : Int) ≤ (room : Nat) := by rw [roomI]; omega
  simp only [jobberlaw22_OutRuns, out_New, Option.bind_some, q1, d1, d2, true_and, ot hr.2, cond_true, q2, s1, s2, Bool.not_false, out_Out_Over, q3]
theorem imin_take {β : Type} (l : List β) (n : Nat) (m : Int) (hm : m = (n : Int)) : l.take (imin (l.length : Int) m).toNat = l.take n ∧ 0 ≤ imin (l.length : Int) m ∧ imin (l.length : Int) m ≤ (l.length : Int) := by
  subst hm
  have e : imin (l.length : Int) (n : Int) = ((min l.length n : Nat) : Int) := by
    rw [imin]
    by_cases h : (n : Int) < (l.length : Int)
    · rw [ot h]; simp only [cond_true]; omega
    · rw [of_ h]; simp only [cond_false]; omega
  rw [e, Int.toNat_natCast]
  refine ⟨?_, by omega, by omega⟩
  rcases Nat.le_total l.length n with h | h
  · rw [Nat.min_eq_left h, List.take_length, List.take_of_length_le h]
  · rw [Nat.min_eq_right h]
abbrev tB : Ty := .deep (.int .u8)
abbrev tAsk : Ty := .cons (.int .i64) (.cons (.int .i64) (.cons tB .nil))
theorem push_fit (b : List Int) (x : List Int) (h : b.length + x.length ≤ 4096) : pushO b false x = (true, b ++ x, false) := by simp only [pushO, cond_false, ot h, cond_true]
theorem kk_all (n : Int) (b : List Int) (h : (b.length : Int) ≤ n) : kk n b = b.length := by
  unfold kk; split
  · omega
  · split <;> omega
theorem jobberlaw22_OutTwins.law (a b : List Int) (n : Int) (h0 : Rng tB a) (h1 : Rng tB b) (h2 : Rng (.int .i64) n) : jobberlaw22_OutTwins ((a, b, n, ()), ()) = some ((true, ()), ()) := by
  obtain ⟨k, k0, k1, ek⟩ := within22 (rng64 h2) (lo := 0) (hi := 50) (by omega) (by omega) (by omega) (by omega)
  obtain ⟨a1, a2, a3⟩ := imin_take a 100 100 rfl
  obtain ⟨b1, b2, b3⟩ := imin_take b 100 100 rfl
  have la : (a.take 100).length ≤ 100 := by rw [List.length_take]; omega
  have lb : (b.take 100).length ≤ 100 := by rw [List.length_take]; omega
  generalize a.take 100 = A at a1 la
  generalize b.take 100 = B at b1 lb
  have q1 := push22 [] false A (by simp)
  have q2 := push22 [] false B (by simp)
  rw [push_fit [] A (by simp; omega)] at q1
  rw [push_fit [] B (by simp; omega)] at q2
  simp only [List.nil_append] at q1 q2
  have q3 := push22 A false B (by omega)
  rw [push_fit A B (by omega)] at q3
  simp only at q3
  have d1 := drain22 k (A ++ B) false (by simp; omega)
  have key : ∀ (S : List Int) (o1 o2 : List Int × Bool × Unit), S.length ≤ 200 → ∃ r : ((List Int) × (List Int) × Unit × Unit × Int × Unit) × (((List Int) × Bool × Unit) × ((List Int) × Bool × Unit) × Unit), r = ((A, B, (), (), k, ()), ((o1.1, o1.2.1, ()), (o2.1, o2.2.1, ()), ())) ∧ loopFix jobberlaw22_OutTwins_l10 ((A, B, (), (), k, (), (S.length : Int), 0, ()), ((o1.1, o1.2.1, ()), (o2.1, o2.2.1, ()), S, ())) = some r := by
    intro S o1 o2 hS
    have key := loop_ind (b := jobberlaw22_OutTwins_l10) (fun d => ∃ (i : Nat) (R : List Int), d = ((A, B, (), (), k, (), (S.length : Int), (i : Int), ()), ((o1.1, o1.2.1, ()), (o2.1, o2.2.1, ()), R, ())) ∧ R.length = S.length ∧ i ≤ S.length) (fun r => r = ((A, B, (), (), k, ()), ((o1.1, o1.2.1, ()), (o2.1, o2.2.1, ()), ()))) (fun d => S.length - d.1.2.2.2.2.2.2.2.1.toNat) (by
      rintro d ⟨i, R, rfl, hR, hi⟩
      by_cases h : i < S.length
      · right
        have hl : i < R.length := by omega
        have e1 : wr .i64 ((i : Int) + 1) = ((i + 1 : Nat) : Int) := by rw [wr64 (by omega) (by omega)]; omega
        refine ⟨((A, B, (), (), k, (), (S.length : Int), ((i + 1 : Nat) : Int), ()), ((o1.1, o1.2.1, ()), (o2.1, o2.2.1, ()), R.set i (bxor .u8 R[i] 1), ())), ?_, ⟨i + 1, _, rfl, by rw [List.length_set]; exact hR, by omega⟩, by simp only; omega⟩
        simp only [jobberlaw22_OutTwins_l10, ot (show (i : Int) < (S.length : Int) by omega), ot (show (0 : Int) ≤ (i : Int) ∧ (i : Int) < (R.length : Int) by omega), cond_true, Int.toNat_natCast, List.getElem?_eq_getElem hl, Option.bind_some, e1]
      · left
        exact ⟨_, by simp only [jobberlaw22_OutTwins_l10, of_ (show ¬ (i : Int) < (S.length : Int) by omega), cond_false], rfl⟩)
    obtain ⟨r, hr, e⟩ := key _ ⟨0, S, rfl, rfl, by omega⟩
    exact ⟨r, e, hr⟩
  obtain ⟨r, rfl, hr⟩ := key ((A ++ B).take (kk k (A ++ B))) ((A ++ B).drop (kk k (A ++ B)), false, ()) (B, false, ()) (by rw [List.length_take, List.length_append]; omega)
  simp only at hr
  have d2 := drain22 999 ((A ++ B).drop (kk k (A ++ B))) false (by rw [List.length_drop, List.length_append]; omega)
  have d3 := drain22 999 B false (by omega)
  rw [kk_all 999 _ (by rw [List.length_drop, List.length_append]; omega), List.take_length] at d2
  rw [kk_all 999 _ (by omega), List.take_length] at d3
  have r1 : odec (((([] : List Int).length + A.length : Nat) : Int) * ((1 : Nat) : Int) ≤ (room : Nat)) = true := inRoom (by simp only [List.length_nil]; omega)
  have r2 : odec (((A.length + B.length : Nat) : Int) * ((1 : Nat) : Int) ≤ (room : Nat)) = true := inRoom (by omega)
  have hm : imin k ((A ++ B).length : Int) = (kk k (A ++ B) : Int) := by
    have := kk1 k (A ++ B)
    have h3 : imax 0 (imin k ((A ++ B).length : Int)) = imin k ((A ++ B).length : Int) := by
      have h4 : 0 ≤ imin k ((A ++ B).length : Int) := by
        rw [imin]; cases odec (((A ++ B).length : Int) < k)
        · exact k0
        · simp only [cond_true]; omega
      rw [imax]
      by_cases h5 : imin k ((A ++ B).length : Int) > 0
      · rw [ot h5]; rfl
      · rw [of_ h5]; simp only [cond_false]; omega
    rw [← h3, this]
  have hk := kk_le k (A ++ B)
  have s1 := same_ok ((A ++ B).drop (kk k (A ++ B))) ((A ++ B).drop (kk k (A ++ B))) (by rw [List.length_drop, List.length_append]; omega)
  have s2 := same_ok B B (by omega)
  rw [ot rfl] at s1 s2
  simp only [jobberlaw22_OutTwins, out_New, Option.bind_some, a1, b1, ot (show (0 : Int) ≤ (0 : Int) ∧ (0 : Int) ≤ imin (a.length : Int) 100 ∧ imin (a.length : Int) 100 ≤ (a.length : Int) from ⟨by omega, a2, a3⟩), ot (show (0 : Int) ≤ (0 : Int) ∧ (0 : Int) ≤ imin (b.length : Int) 100 ∧ imin (b.length : Int) 100 ≤ (b.length : Int) from ⟨by omega, b2, b3⟩), cond_true, q1, q2, q3, Bool.not_true, cond_false, ek, d1, hr, r1, List.nil_append, r2, d2, hm, ot (show (0 : Int) ≤ (kk k (A ++ B) : Int) ∧ (kk k (A ++ B) : Int) ≤ ((A ++ B).length : Int) by omega), Int.toNat_natCast, s1, d3, s2, jobberlaw22_OutRuns.law]
theorem plays_in (l : List (Int × Int × (List Int) × Unit)) (o1 o2 : List Int × Bool × Unit) (q : Int × Int × (List Int) × Unit) (i : Int) (m : Nat) (hm : m ≤ 20) : ∃ B : List Int, B.length ≤ 1200 ∧ loopFix jobberlaw22_OutPlays_l13 ((l, (), (), i, (), (), (m : Int), ()), (o1, o2, q, ([] : List Int), ())) = some ((l, (), (), i, B, ()), (o1, o2, q, ())) := by
  obtain ⟨t1, t2, t3⟩ := imin_take q.2.2.1 60 60 rfl
  have lt : (q.2.2.1.take 60).length ≤ 60 := by rw [List.length_take]; omega
  have key := loop_ind (b := jobberlaw22_OutPlays_l13) (fun d => ∃ (j : Nat) (R : List Int), d = ((l, (), (), i, (), (), (j : Int), ()), (o1, o2, q, R, ())) ∧ j ≤ m ∧ R.length ≤ 60 * (m - j)) (fun r => ∃ B : List Int, B.length ≤ 1200 ∧ r = ((l, (), (), i, B, ()), (o1, o2, q, ()))) (fun d => d.1.2.2.2.2.2.2.1.toNat) (by
    rintro d ⟨j, R, rfl, hj, hR⟩
    by_cases h : 0 < j
    · right
      have e1 : wr .i64 ((j : Int) - 1) = ((j - 1 : Nat) : Int) := by rw [wr64 (by omega) (by omega)]; omega
      refine ⟨((l, (), (), i, (), (), ((j - 1 : Nat) : Int), ()), (o1, o2, q, R ++ q.2.2.1.take 60, ())), ?_, ⟨j - 1, _, rfl, by omega, by rw [List.length_append]; omega⟩, by simp only; omega⟩
      have rr : odec (((R.length + (q.2.2.1.take 60).length : Nat) : Int) * ((1 : Nat) : Int) ≤ (room : Nat)) = true := inRoom (by omega)
      simp only [jobberlaw22_OutPlays_l13, ot (show (j : Int) > 0 by omega), cond_true, ot (show (0 : Int) ≤ (0 : Int) ∧ (0 : Int) ≤ imin (q.2.2.1.length : Int) 60 ∧ imin (q.2.2.1.length : Int) 60 ≤ (q.2.2.1.length : Int) from ⟨by omega, t2, t3⟩), t1, rr, e1]
    · left
      have : j = 0 := by omega
      subst this
      exact ⟨_, by simp only [jobberlaw22_OutPlays_l13, of_ (show ¬ ((0 : Nat) : Int) > 0 by omega), cond_false], R, by omega, rfl⟩)
  obtain ⟨r, hr, B, hB, rfl⟩ := key ((l, (), (), i, (), (), (m : Int), ()), (o1, o2, q, ([] : List Int), ())) ⟨m, [], rfl, Nat.le_refl _, by simp⟩
  exact ⟨B, hB, hr⟩
theorem jobberlaw22_OutPlays.law (l : List (Int × Int × (List Int) × Unit)) (h0 : Rng (.deep tAsk) l) : jobberlaw22_OutPlays ((l, ()), ()) = some ((true, ()), ()) := by
  have hq : ∀ x ∈ l, Rng tAsk x := h0.2
  have key := loop_ind (b := jobberlaw22_OutPlays_l5) (fun d => ∃ (i : Nat) (b : List Int) (o : Bool), d = ((l, (), (), (i : Int), ()), ((b, o, ()), (b, o, ()), ())) ∧ i ≤ 40 ∧ b.length ≤ 4096) (fun r => ∃ s, r = .inr ((), s)) (fun d => 40 - d.1.2.2.2.1.toNat) (by
    rintro d ⟨i, b, o, rfl, hi, hb⟩
    by_cases h1 : i < l.length
    · by_cases h40 : i < 40
      · have e1 : wr .i64 ((i : Int) + 1) = ((i + 1 : Nat) : Int) := by rw [wr64 (by omega) (by omega)]; omega
        have ex := List.getElem?_eq_getElem h1
        obtain ⟨r1, r2, _⟩ := hq _ (List.getElem_mem h1)
        generalize l[i] = x at ex r1 r2
        have hself : ∀ n : Nat, odec ((n : Int) = (n : Int)) = true := fun n => ot rfl
        right
        by_cases k1 : x.1 = 1
        · obtain ⟨m, m0, m1, em⟩ := within22 (rng64 r2) (lo := 1) (hi := 20) (by omega) (by omega) (by omega) (by omega)
          obtain ⟨m, rfl⟩ := Int.eq_ofNat_of_zero_le (show 0 ≤ m by omega)
          obtain ⟨B, hB, hl⟩ := plays_in l (b, o, ()) (b, o, ()) (x.1, x.2.1, x.2.2.1, ()) (i : Int) m (by omega)
          have ht : (B ++ List.replicate 80 (7 : Int)).take (B.length : Int).toNat = B := by rw [Int.toNat_natCast, List.take_append_of_le_length (Nat.le_refl _), List.take_length]
          have hlen : (B ++ List.replicate 80 (7 : Int)).length = B.length + 80 := by simp
          have hp := push_le b o B hb
          refine ⟨((l, (), (), ((i + 1 : Nat) : Int), ()), (((pushO b o B).2.1, (pushO b o B).2.2, ()), ((pushO b o B).2.1, (pushO b o B).2.2, ()), ())), ?_, ⟨i + 1, _, _, rfl, by omega, hp⟩, by simp only; omega⟩
          simp only [jobberlaw22_OutPlays_l5, ot (show (i : Int) < (l.length : Int) by omega), ot (show (i : Int) < 40 by omega), ot (show (0 : Int) ≤ (i : Int) by omega), cond_true, Int.toNat_natCast, ex, Option.bind_some, ot k1, em, hl, roomy_ok B 7 (by omega), ot (show (0 : Int) ≤ (0 : Int) ∧ (0 : Int) ≤ (B.length : Int) ∧ (B.length : Int) ≤ ((B ++ List.replicate 80 (7 : Int)).length : Int) by omega), List.take_left, push22 b o B hb, refPush22 b o B hb, boolEq, beq_self_eq_true, intact_ok B 7 (by omega), Bool.not_true, cond_false, out_Out_Len, hself, odT, out_Out_Over, e1]
        · by_cases k2 : x.1 = 2
          · have s := same_ok (b.take (kk x.2.1 b)) (b.take (kk x.2.1 b)) (by rw [List.length_take]; omega)
            rw [ot rfl] at s
            refine ⟨((l, (), (), ((i + 1 : Nat) : Int), ()), ((b.drop (kk x.2.1 b), o, ()), (b.drop (kk x.2.1 b), o, ()), ())), ?_, ⟨i + 1, _, _, rfl, by omega, by rw [List.length_drop]; omega⟩, by simp only; omega⟩
            simp only [jobberlaw22_OutPlays_l5, ot (show (i : Int) < (l.length : Int) by omega), ot (show (i : Int) < 40 by omega), ot (show (0 : Int) ≤ (i : Int) by omega), cond_true, Int.toNat_natCast, ex, Option.bind_some, of_ k1, cond_false, ot k2, drain22 x.2.1 b o (by omega), refDrain22 x.2.1 b o (by omega), s, out_Out_Len, hself, odT, Bool.not_true, out_Out_Over, boolEq, beq_self_eq_true, e1]
          · refine ⟨((l, (), (), ((i + 1 : Nat) : Int), ()), ((b, o, ()), (b, o, ()), ())), ?_, ⟨i + 1, _, _, rfl, by omega, hb⟩, by simp only; omega⟩
            simp only [jobberlaw22_OutPlays_l5, ot (show (i : Int) < (l.length : Int) by omega), ot (show (i : Int) < 40 by omega), ot (show (0 : Int) ≤ (i : Int) by omega), cond_true, Int.toNat_natCast, ex, Option.bind_some, of_ k1, cond_false, of_ k2, out_Out_Len, hself, odT, Bool.not_true, out_Out_Over, boolEq, beq_self_eq_true, e1]
      · left
        exact ⟨_, by simp only [jobberlaw22_OutPlays_l5, ot (show (i : Int) < (l.length : Int) by omega), of_ (show ¬ (i : Int) < 40 by omega), cond_true, cond_false]; rfl, _, rfl⟩
    · left
      exact ⟨_, by simp only [jobberlaw22_OutPlays_l5, of_ (show ¬ (i : Int) < (l.length : Int) by omega), cond_false]; rfl, _, rfl⟩)
  obtain ⟨r, hr, s, rfl⟩ := key ((l, (), (), 0, ()), ((([] : List Int), false, ()), (([] : List Int), false, ()), ())) ⟨0, _, _, rfl, by omega, by simp⟩
  simp only [jobberlaw22_OutPlays, out_New, Option.bind_some, hr, jobberlaw22_OutRuns.law]
theorem jobberlaw22_OutOrder.law (l : List (List Int)) (cuts : List Int) (h0 : Rng (.deep tB) l) (h1 : Rng (.deep (.int .i64)) cuts) : jobberlaw22_OutOrder ((l, cuts, ()), ()) = some ((true, ()), ()) := by
  have hc : ∀ x ∈ cuts, Rng (.int .i64) x := h1.2
  have key := loop_ind (b := jobberlaw22_OutOrder_l6) (fun d => ∃ (i : Nat) (b : List Int) (o : Bool) (W G : List Int), d = ((l, cuts, (), (), (), (i : Int), ()), ((b, o, ()), W, G, ())) ∧ i ≤ 20 ∧ b.length ≤ 4096 ∧ W = G ++ b ∧ W.length ≤ 200 * i) (fun r => ∃ (b : List Int) (o : Bool) (W G : List Int), r = .inr (((), W, (), ()), ((b, o, ()), G, ())) ∧ b.length ≤ 4096 ∧ W = G ++ b ∧ W.length ≤ 4000) (fun d => 20 - d.1.2.2.2.2.2.1.toNat) (by
    rintro d ⟨i, b, o, W, G, rfl, hi, hb, hW, hlen⟩
    by_cases h1 : i < l.length
    · by_cases h20 : i < 20
      · have e1 : wr .i64 ((i : Int) + 1) = ((i + 1 : Nat) : Int) := by rw [wr64 (by omega) (by omega)]; omega
        have ex := List.getElem?_eq_getElem h1
        generalize l[i] = x at ex
        obtain ⟨t1, t2, t3⟩ := imin_take x 200 200 rfl
        have lt : (x.take 200).length ≤ 200 := by rw [List.length_take]; omega
        generalize x.take 200 = B at t1 lt
        have hWl : W.length = G.length + b.length := by rw [hW, List.length_append]
        have common : ∀ (b' : List Int) (o' ok : Bool) (W' : List Int), pushO b o B = (ok, b', o') → b'.length ≤ 4096 → W' = G ++ b' → W'.length ≤ 200 * (i + 1) → W' = (bif ok then W ++ B else W) →
            ∃ l', jobberlaw22_OutOrder_l6 ((l, cuts, (), (), (), (i : Int), ()), ((b, o, ()), W, G, ())) = some (.inl l') ∧ (∃ (i : Nat) (b : List Int) (o : Bool) (W G : List Int), l' = ((l, cuts, (), (), (), (i : Int), ()), ((b, o, ()), W, G, ())) ∧ i ≤ 20 ∧ b.length ≤ 4096 ∧ W = G ++ b ∧ W.length ≤ 200 * i) ∧ 20 - l'.1.2.2.2.2.2.1.toNat < 20 - (i : Int).toNat := by
          intro b' o' ok W' hp hb' hW' hl' hok
          have hp2 := push22 b o B hb
          rw [hp] at hp2
          simp only at hp2
          have hWl' : W'.length = G.length + b'.length := by rw [hW', List.length_append]
          have rr : odec (((W.length + B.length : Nat) : Int) * ((1 : Nat) : Int) ≤ (room : Nat)) = true := inRoom (by omega)
          by_cases hcut : i < cuts.length
          · have ec := List.getElem?_eq_getElem hcut
            have rc := hc _ (List.getElem_mem hcut)
            generalize cuts[i] = c at ec rc
            obtain ⟨n, n0, n1, en⟩ := within22 (rng64 rc) (lo := 0) (hi := 150) (by omega) (by omega) (by omega) (by omega)
            have hk := kk_le n b'
            have rg : odec (((G.length + (b'.take (kk n b')).length : Nat) : Int) * ((1 : Nat) : Int) ≤ (room : Nat)) = true := inRoom (by rw [List.length_take]; omega)
            have lg : (G ++ b'.take (kk n b')).length = G.length + kk n b' := by rw [List.length_append, List.length_take]; omega
            have ld : (b'.drop (kk n b')).length = b'.length - kk n b' := by rw [List.length_drop]
            have ee : ((b'.drop (kk n b')).length : Int) = wr .i64 ((W'.length : Int) - ((G ++ b'.take (kk n b')).length : Int)) := by rw [lg, ld, wr64 (by omega) (by omega)]; omega
            refine ⟨((l, cuts, (), (), (), ((i + 1 : Nat) : Int), ()), ((b'.drop (kk n b'), o', ()), W', G ++ b'.take (kk n b'), ())), ?_, ⟨i + 1, _, _, _, _, rfl, by omega, by omega, ?_, hl'⟩, by simp only; omega⟩
            · cases ok <;> simp only [cond_true, cond_false] at hok <;> rw [hok] at ee ⊢ <;> simp only [jobberlaw22_OutOrder_l6, ot (show (i : Int) < (l.length : Int) by omega), ot (show (i : Int) < 20 by omega), ot (show (0 : Int) ≤ (i : Int) by omega), cond_true, Int.toNat_natCast, ex, Option.bind_some, ot (show (0 : Int) ≤ (0 : Int) ∧ (0 : Int) ≤ imin (x.length : Int) 200 ∧ imin (x.length : Int) 200 ≤ (x.length : Int) from ⟨by omega, t2, t3⟩), t1, hp2, rr, ot (show (i : Int) < (cuts.length : Int) by omega), ec, en, drain22 n b' o' (by omega), rg, out_Out_Len, of_ (show ¬ ((b'.drop (kk n b')).length : Int) > 4096 by omega), cond_false, ot ee, Bool.not_true, e1]
            · rw [List.append_assoc, List.take_append_drop]; exact hW'
          · have ee : (b'.length : Int) = wr .i64 ((W'.length : Int) - (G.length : Int)) := by rw [wr64 (by omega) (by omega)]; omega
            refine ⟨((l, cuts, (), (), (), ((i + 1 : Nat) : Int), ()), ((b', o', ()), W', G, ())), ?_, ⟨i + 1, _, _, _, _, rfl, by omega, by omega, hW', hl'⟩, by simp only; omega⟩
            cases ok <;> simp only [cond_true, cond_false] at hok <;> rw [hok] at ee ⊢ <;> simp only [jobberlaw22_OutOrder_l6, ot (show (i : Int) < (l.length : Int) by omega), ot (show (i : Int) < 20 by omega), ot (show (0 : Int) ≤ (i : Int) by omega), cond_true, Int.toNat_natCast, ex, Option.bind_some, ot (show (0 : Int) ≤ (0 : Int) ∧ (0 : Int) ≤ imin (x.length : Int) 200 ∧ imin (x.length : Int) 200 ≤ (x.length : Int) from ⟨by omega, t2, t3⟩), t1, hp2, rr, of_ (show ¬ (i : Int) < (cuts.length : Int) by omega), out_Out_Len, of_ (show ¬ (b'.length : Int) > 4096 by omega), cond_false, ot ee, Bool.not_true, e1]
        right
        cases o with
        | true => exact common b true false W rfl hb hW (by omega) rfl
        | false =>
          by_cases hf : b.length + B.length ≤ 4096
          · exact common (b ++ B) false true (W ++ B) (push_fit b B hf) (by rw [List.length_append]; omega) (by rw [hW, List.append_assoc]) (by rw [List.length_append]; omega) rfl
          · exact common b true false W (by simp only [pushO, cond_false, of_ hf]) hb hW (by omega) rfl
      · left
        exact ⟨_, by simp only [jobberlaw22_OutOrder_l6, ot (show (i : Int) < (l.length : Int) by omega), of_ (show ¬ (i : Int) < 20 by omega), cond_true, cond_false]; rfl, _, _, _, _, rfl, hb, hW, by omega⟩
    · left
      exact ⟨_, by simp only [jobberlaw22_OutOrder_l6, of_ (show ¬ (i : Int) < (l.length : Int) by omega), cond_false]; rfl, _, _, _, _, rfl, hb, hW, by omega⟩)
  obtain ⟨r, hr, b, o, W, G, rfl, hb, hW, hl⟩ := key ((l, cuts, (), (), (), 0, ()), ((([] : List Int), false, ()), ([] : List Int), ([] : List Int), ())) ⟨0, _, _, _, _, rfl, by omega, by simp, by simp, by simp⟩
  have hWl : W.length = G.length + b.length := by rw [hW, List.length_append]
  have d1 := drain22 4611686018427387904 b o (by omega)
  rw [kk_all _ b (by omega), List.take_length, List.drop_length] at d1
  have d2 := drain22 5 [] o (by simp)
  have d3 := drain22 (-1) [] o (by simp)
  simp only [List.drop_nil, List.take_nil] at d2 d3
  have rr : odec (((G.length + b.length : Nat) : Int) * ((1 : Nat) : Int) ≤ (room : Nat)) = true := inRoom (by omega)
  have s := same_ok (G ++ b) W (by rw [← hW]; omega)
  rw [ot hW.symm] at s
  simp only [jobberlaw22_OutOrder, out_New, Option.bind_some, hr, d1, rr, cond_true, s, out_Out_Len, ot (show ((([] : List Int).length : Nat) : Int) = 0 from rfl), d2, d3, jobberlaw22_OutRuns.law]
theorem jobberlaw22_OutRoom.law (l : List Int) (h0 : Rng (.deep (.int .i64)) l) : jobberlaw22_OutRoom ((l, ()), ()) = some ((true, ()), ()) := by
  have hc : ∀ x ∈ l, Rng (.int .i64) x := h0.2
  have key := loop_ind (b := jobberlaw22_OutRoom_l6) (fun d => ∃ (i : Nat) (b : List Int) (o : Bool), d = ((l, (), (b.length : Int), o, (i : Int), ()), ((b, o, ()), ())) ∧ i ≤ 30 ∧ b.length ≤ 4096) (fun r => ∃ s, r = .inr ((), s)) (fun d => 30 - d.1.2.2.2.2.1.toNat) (by
    rintro d ⟨i, b, o, rfl, hi, hb⟩
    by_cases h1 : i < l.length
    · by_cases h30 : i < 30
      · have e1 : wr .i64 ((i : Int) + 1) = ((i + 1 : Nat) : Int) := by rw [wr64 (by omega) (by omega)]; omega
        have ex := List.getElem?_eq_getElem h1
        have rc := hc _ (List.getElem_mem h1)
        generalize l[i] = x at ex rc
        obtain ⟨n, n0, n1, en⟩ := within22 (rng64 rc) (lo := 0) (hi := 900) (by omega) (by omega) (by omega) (by omega)
        right
        by_cases h3 : Int.tmod (i : Int) 3 = 2
        · have hk := kk_le n b
          have hmin : imin n (b.length : Int) = (kk n b : Int) := by
            rw [imin]; unfold kk
            by_cases q : (b.length : Int) < n
            · rw [ot q, if_neg (by omega), if_pos (by omega)]; rfl
            · rw [of_ q, if_neg (by omega), if_neg (by omega)]; simp only [cond_false]; omega
          have lt : ((b.take (kk n b)).length : Int) = (kk n b : Int) := by rw [List.length_take]; omega
          have ld : ((b.drop (kk n b)).length : Int) = (b.length : Int) - (kk n b : Int) := by rw [List.length_drop]; omega
          have ew : wr .i64 ((b.length : Int) - (kk n b : Int)) = ((b.drop (kk n b)).length : Int) := by rw [ld, wr64 (by omega) (by omega)]
          refine ⟨((l, (), ((b.drop (kk n b)).length : Int), o, ((i + 1 : Nat) : Int), ()), ((b.drop (kk n b), o, ()), ())), ?_, ⟨i + 1, _, _, rfl, by omega, by omega⟩, by simp only; omega⟩
          simp only [jobberlaw22_OutRoom_l6, ot (show (i : Int) < (l.length : Int) by omega), ot (show (i : Int) < 30 by omega), ot (show (0 : Int) ≤ (i : Int) by omega), cond_true, Int.toNat_natCast, ex, Option.bind_some, en, of_ (show ¬ (3 : Int) = 0 by omega), cond_false, ot h3, drain22 n b o (by omega), hmin, ot lt, Bool.not_true, out_Out_Len, ew, odT, out_Out_Over, boolEq, beq_self_eq_true, e1]
        · have w : wr .i64 (4096 - (b.length : Int)) = 4096 - (b.length : Int) := wr64 (by omega) (by omega)
          obtain ⟨n, rfl⟩ := Int.eq_ofNat_of_zero_le n0
          have hroom : (0 : Int) ≤ (n : Int) ∧ (n : Int) * ((1 : Nat) : Int) ≤ (room : Nat) := by rw [roomI]; omega
          have hp := push22 b o (List.replicate n (0 : Int)) hb
          have hlr : (List.replicate n (0 : Int)).length = n := List.length_replicate
          cases o with
          | true =>
            have hpo : pushO b true (List.replicate n (0 : Int)) = (false, b, true) := rfl
            rw [hpo] at hp
            simp only at hp
            refine ⟨((l, (), (b.length : Int), true, ((i + 1 : Nat) : Int), ()), ((b, true, ()), ())), ?_, ⟨i + 1, _, _, rfl, by omega, hb⟩, by simp only; omega⟩
            simp only [jobberlaw22_OutRoom_l6, ot (show (i : Int) < (l.length : Int) by omega), ot (show (i : Int) < 30 by omega), ot (show (0 : Int) ≤ (i : Int) by omega), cond_true, Int.toNat_natCast, ex, Option.bind_some, en, of_ (show ¬ (3 : Int) = 0 by omega), cond_false, of_ h3, Bool.not_true, true_and, ot hroom, hp, boolEq, beq_self_eq_true, out_Out_Len, odT, out_Out_Over, e1]
          | false =>
            by_cases hf : b.length + n ≤ 4096
            · have hpo : pushO b false (List.replicate n (0 : Int)) = (true, b ++ List.replicate n (0 : Int), false) := push_fit _ _ (by rw [hlr]; exact hf)
              rw [hpo] at hp
              simp only at hp
              have ll : ((b ++ List.replicate n (0 : Int)).length : Int) = (b.length : Int) + (n : Int) := by rw [List.length_append, hlr]; omega
              have ew : wr .i64 ((b.length : Int) + (n : Int)) = ((b ++ List.replicate n (0 : Int)).length : Int) := by rw [ll, wr64 (by omega) (by omega)]
              refine ⟨((l, (), ((b ++ List.replicate n (0 : Int)).length : Int), false, ((i + 1 : Nat) : Int), ()), ((b ++ List.replicate n (0 : Int), false, ()), ())), ?_, ⟨i + 1, _, _, rfl, by omega, by omega⟩, by simp only; omega⟩
              simp only [jobberlaw22_OutRoom_l6, ot (show (i : Int) < (l.length : Int) by omega), ot (show (i : Int) < 30 by omega), ot (show (0 : Int) ≤ (i : Int) by omega), cond_true, Int.toNat_natCast, ex, Option.bind_some, en, of_ (show ¬ (3 : Int) = 0 by omega), cond_false, of_ h3, Bool.not_false, true_and, ot hroom, hp, boolEq, beq_self_eq_true, out_Out_Len, odT, Bool.not_true, out_Out_Over, e1, w, ot (show (n : Int) ≤ 4096 - (b.length : Int) by omega), ew]
            · have hpo : pushO b false (List.replicate n (0 : Int)) = (false, b, true) := by simp only [pushO, cond_false, hlr, of_ hf]
              rw [hpo] at hp
              simp only at hp
              refine ⟨((l, (), (b.length : Int), true, ((i + 1 : Nat) : Int), ()), ((b, true, ()), ())), ?_, ⟨i + 1, _, _, rfl, by omega, hb⟩, by simp only; omega⟩
              simp only [jobberlaw22_OutRoom_l6, ot (show (i : Int) < (l.length : Int) by omega), ot (show (i : Int) < 30 by omega), ot (show (0 : Int) ≤ (i : Int) by omega), cond_true, Int.toNat_natCast, ex, Option.bind_some, en, of_ (show ¬ (3 : Int) = 0 by omega), cond_false, of_ h3, Bool.not_false, Bool.not_true, true_and, ot hroom, hp, boolEq, beq_self_eq_true, out_Out_Len, odT, out_Out_Over, e1, w, of_ (show ¬ (n : Int) ≤ 4096 - (b.length : Int) by omega)]
      · left
        exact ⟨_, by simp only [jobberlaw22_OutRoom_l6, ot (show (i : Int) < (l.length : Int) by omega), of_ (show ¬ (i : Int) < 30 by omega), cond_true, cond_false]; rfl, _, rfl⟩
    · left
      exact ⟨_, by simp only [jobberlaw22_OutRoom_l6, of_ (show ¬ (i : Int) < (l.length : Int) by omega), cond_false]; rfl, _, rfl⟩)
  obtain ⟨r, hr, s, rfl⟩ := key ((l, (), 0, false, 0, ()), ((([] : List Int), false, ()), ())) ⟨0, [], false, rfl, by omega, by simp⟩
  simp only [jobberlaw22_OutRoom, out_New, Option.bind_some, hr, jobberlaw22_OutRuns.law]
end AM
