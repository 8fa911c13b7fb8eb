/- The laws of chapter 5, in plain Lean. -/
import Derived.Test.YtghdgdapgeioeaaPrn
set_option linter.unusedVariables false
set_option linter.unusedSimpArgs false
namespace AM
open Go
set_option maxRecDepth 100000
theorem within5 {v lo hi : Int} (hv : -9223372036854775808 ≤ v ∧ v ≤ 9223372036854775807) (h0 : -4611686018427387904 ≤ lo) (h1 : lo ≤ hi) (h2 : hi ≤ 4611686018427387902) (h3 : hi - lo < 4611686018427387904) :
    ∃ r, lo ≤ r ∧ r ≤ hi ∧ jobberbook_Within ((v, lo, hi, ()), ()) = some ((r, ()), ()) := within_ok hv h0 h1 h2 h3
/-! ### words for bytes -/
theorem roomI : ((room : Nat) : Int) = 70368744177664 := by rw [room_eq]; rfl
theorem inRoom {n : Int} (h : n ≤ 70368744177664) : odec (n * ((1 : Nat) : Int) ≤ (room : Nat)) = true := ot (by rw [roomI]; omega)
theorem clone_ok (xs : List Int) (h : xs.length ≤ 70368744177664) : slices_Clone_byte_byte ((xs, ()), ()) = some (((), ()), (xs, ())) := by
  have e : odec (((([] : List Int).length + xs.length : Nat) : Int) * ((1 : Nat) : Int) ≤ (room : Nat)) = true := inRoom (by simp only [List.length_nil]; omega)
  simp only [slices_Clone_byte_byte, e, cond_true, List.nil_append]
  by_cases h0 : (xs.length : Int) = 0
  · have hx : xs = [] := List.eq_nil_of_length_eq_zero (by omega)
    subst hx
    rw [ot h0, cond_true, ot rfl, cond_true]
  · rw [of_ h0, cond_false]
theorem take_flat {L : List (List Int)} {i : Nat} {x : List Int} (h : L[i]? = some x) : (L.take (i + 1)).flatten = (L.take i).flatten ++ x := by
  rw [List.take_add_one, h]; simp
theorem flat_le {L : List (List Int)} (i : Nat) : (L.take i).flatten.length ≤ L.flatten.length := by
  have : L.flatten = (L.take i).flatten ++ (L.drop i).flatten := by rw [← List.flatten_append, List.take_append_drop]
  rw [this, List.length_append]; omega
theorem sum_ok (L : List (List Int)) (h : L.flatten.length ≤ 70368744177664) (hn : L.length ≤ 70368744177664) : loopFix slices_Concat_byte_byte_l3 ((L, 0, L, (L.length : Int), 0, ()), ()) = some ((L, (L.flatten.length : Int), ()), ()) := by
  have key := loop_ind (b := slices_Concat_byte_byte_l3) (fun d => ∃ i : Nat, d = ((L, ((L.take i).flatten.length : Int), L, (L.length : Int), (i : Int), ()), ()) ∧ i ≤ L.length) (fun r => r = ((L, (L.flatten.length : Int), ()), ())) (fun d => (L.length : Int).toNat - d.1.2.2.2.2.1.toNat) (by
    rintro d ⟨i, rfl, hi⟩
    by_cases h1 : i < L.length
    · right
      have ex := List.getElem?_eq_getElem h1
      have e1 : wr .i64 ((i : Int) + 1) = ((i + 1 : Nat) : Int) := by rw [wr64 (by omega) (by omega)]; omega
      have e2 : wr .i64 (((L.take i).flatten.length : Int) + (L[i].length : Int)) = ((L.take (i + 1)).flatten.length : Int) := by
        have := flat_le (L := L) (i + 1)
        rw [take_flat ex, List.length_append] at this ⊢
        rw [wr64 (by omega) (by omega)]; omega
      refine ⟨((L, ((L.take (i + 1)).flatten.length : Int), L, (L.length : Int), ((i + 1 : Nat) : Int), ()), ()), ?_, ⟨i + 1, rfl, by omega⟩, by simp only; omega⟩
      simp only [slices_Concat_byte_byte_l3, ot (show (i : Int) < (L.length : Int) by omega), ot (show (0 : Int) ≤ (i : Int) by omega), cond_true, Int.toNat_natCast, ex, Option.bind_some, e1, e2, of_ (show ¬ (((L.take (i + 1)).flatten.length : Int)) < 0 by omega), cond_false]
    · left
      have : i = L.length := by omega
      subst this
      exact ⟨_, by simp only [slices_Concat_byte_byte_l3, of_ (show ¬ (L.length : Int) < (L.length : Int) by omega), cond_false, List.take_length], rfl⟩)
  obtain ⟨r, hr, rfl⟩ := key ((L, 0, L, (L.length : Int), 0, ()), ()) ⟨0, by simp, by omega⟩
  exact hr
theorem grow_ok (n : Nat) (h : n ≤ 70368744177664) : slices_Grow_byte_byte (((), (n : Int), ()), ()) = some (if 0 < n then .inl ((0, ()), (List.replicate n (0 : Int), ())) else .inr (((), ()), ([], ()))) := by
  have w0 : wr .i64 (0 - 0) = 0 := wr64 (by omega) (by omega)
  have w1 : wr .i64 ((n : Int) - 0) = (n : Int) := by rw [wr64 (by omega) (by omega)]; omega
  have e1 : (0 : Int) ≤ (n : Int) ∧ ((([] : List Int).length : Int) + (n : Int)) * ((1 : Nat) : Int) ≤ (room : Nat) := by rw [roomI]; simp only [List.length_nil]; omega
  have e2 : (0 : Int) ≤ (0 : Int) ∧ (0 : Int) ≤ (0 : Int) ∧ (0 : Int) ≤ ((([] : List Int) ++ List.replicate ((n : Int)).toNat (0 : Int)).length : Int) := by omega
  simp only [slices_Grow_byte_byte, w0, w1, of_ (show ¬ (n : Int) < 0 by omega), cond_false, ot (show (0 : Int) = 0 ∧ (0 : Int) = 0 from ⟨rfl, rfl⟩), cond_true, ot e1, Int.toNat_natCast, and_self, odT, List.nil_append, ot (show (0 : Int) ≤ 0 by omega), ot (show (0 : Int) ≤ 0 ∧ (0 : Int) ≤ 0 ∧ (0 : Int) ≤ ((List.replicate n (0 : Int)).length : Int) by omega)]
  by_cases hn : 0 < n
  · rw [if_pos hn, ot (show (n : Int) > 0 by omega)]; rfl
  · rw [if_neg hn, of_ (show ¬ (n : Int) > 0 by omega)]; rfl
theorem put_ok (L : List (List Int)) (h : L.flatten.length ≤ 70368744177664) (hn : L.length ≤ 70368744177664) : loopFix slices_Concat_byte_byte_l11 ((0, L, (L.length : Int), 0, ()), (List.replicate L.flatten.length (0 : Int), ())) = some ((L.flatten, ()), ()) := by
  have key := loop_ind (b := slices_Concat_byte_byte_l11) (fun d => ∃ (i : Nat) (R : List Int), d = (((L.take i).flatten.length, L, (L.length : Int), (i : Int), ()), (R, ())) ∧ i ≤ L.length ∧ R.length = L.flatten.length ∧ R.take (L.take i).flatten.length = (L.take i).flatten) (fun r => r = ((L.flatten, ()), ())) (fun d => (L.length : Int).toNat - d.1.2.2.2.1.toNat) (by
    rintro d ⟨i, R, rfl, hi, hR, hT⟩
    by_cases h1 : i < L.length
    · right
      have ex := List.getElem?_eq_getElem h1
      have e1 : wr .i64 ((i : Int) + 1) = ((i + 1 : Nat) : Int) := by rw [wr64 (by omega) (by omega)]; omega
      have hf := take_flat ex
      have hle := flat_le (L := L) (i + 1)
      rw [hf, List.length_append] at hle
      have hc : 0 + (L.take i).flatten.length + L[i].length ≤ R.length := by omega
      refine ⟨(((L.take (i + 1)).flatten.length, L, (L.length : Int), ((i + 1 : Nat) : Int), ()), (R.take (0 + (L.take i).flatten.length) ++ L[i] ++ R.drop ((0 + (L.take i).flatten.length) + L[i].length), ())), ?_, ⟨i + 1, _, rfl, by omega, ?_, ?_⟩, by simp only; omega⟩
      · simp only [slices_Concat_byte_byte_l11, ot (show (i : Int) < (L.length : Int) by omega), ot (show (0 : Int) ≤ (i : Int) by omega), cond_true, Int.toNat_natCast, ex, Option.bind_some, e1, ot hc, hf, List.length_append]
      · simp only [List.length_append, List.length_take, List.length_drop]; omega
      · rw [hf, Nat.zero_add, hT, List.append_assoc]
        rw [List.length_append, ← List.append_assoc, List.take_append_of_le_length (by rw [List.length_append]; omega)]
        exact List.take_of_length_le (by rw [List.length_append]; omega)
    · left
      have : i = L.length := by omega
      subst this
      rw [List.take_length] at hT
      exact ⟨_, by simp only [slices_Concat_byte_byte_l11, of_ (show ¬ (L.length : Int) < (L.length : Int) by omega), cond_false, List.take_length, hT], rfl⟩)
  obtain ⟨r, hr, rfl⟩ := key ((0, L, (L.length : Int), 0, ()), (List.replicate L.flatten.length (0 : Int), ())) ⟨0, _, rfl, by omega, List.length_replicate, by simp only [List.take_zero, List.flatten_nil, List.length_nil]⟩
  exact hr
theorem put0_ok (L : List (List Int)) (h : L.flatten.length = 0) (hn : L.length ≤ 70368744177664) : loopFix slices_Concat_byte_byte_l11b (((), L, (L.length : Int), 0, ()), ([], ())) = some (([], ()), ()) := by
  have hz : ∀ x ∈ L, x = [] := by
    intro x hx
    obtain ⟨a, b, rfl⟩ := List.append_of_mem hx
    rw [List.flatten_append, List.flatten_cons, List.length_append, List.length_append] at h
    exact List.eq_nil_of_length_eq_zero (by omega)
  have key := loop_ind (b := slices_Concat_byte_byte_l11b) (fun d => ∃ (i : Nat), d = (((), L, (L.length : Int), (i : Int), ()), ([], ())) ∧ i ≤ L.length) (fun r => r = (([], ()), ())) (fun d => (L.length : Int).toNat - d.1.2.2.2.1.toNat) (by
    rintro d ⟨i, rfl, hi⟩
    by_cases h1 : i < L.length
    · right
      have ex : L[i]? = some [] := by rw [List.getElem?_eq_getElem h1, hz _ (List.getElem_mem h1)]
      have e1 : wr .i64 ((i : Int) + 1) = ((i + 1 : Nat) : Int) := by rw [wr64 (by omega) (by omega)]; omega
      have e2 : odec (((([] : List Int).length + ([] : List Int).length : Nat) : Int) * ((1 : Nat) : Int) ≤ (room : Nat)) = true := inRoom (by simp)
      refine ⟨(((), L, (L.length : Int), ((i + 1 : Nat) : Int), ()), ([], ())), ?_, ⟨i + 1, rfl, by omega⟩, by simp only; omega⟩
      simp only [slices_Concat_byte_byte_l11b, ot (show (i : Int) < (L.length : Int) by omega), ot (show (0 : Int) ≤ (i : Int) by omega), cond_true, Int.toNat_natCast, ex, Option.bind_some, e1, e2, List.append_nil]
    · left
      have : i = L.length := by omega
      subst this
      exact ⟨_, by simp only [slices_Concat_byte_byte_l11b, of_ (show ¬ (L.length : Int) < (L.length : Int) by omega), cond_false], rfl⟩)
  obtain ⟨r, hr, rfl⟩ := key (((), L, (L.length : Int), 0, ()), ([], ())) ⟨0, rfl, by omega⟩
  exact hr
theorem concat_ok (L : List (List Int)) (h : L.flatten.length ≤ 70368744177664) (hn : L.length ≤ 70368744177664) : slices_Concat_byte_byte ((L, ()), ()) = some ((L.flatten, ()), ()) := by
  simp only [slices_Concat_byte_byte, sum_ok L h hn, Option.bind_some, grow_ok _ h]
  by_cases h0 : 0 < L.flatten.length
  · rw [if_pos h0]
    simp only [put_ok L h hn, Option.bind_some]
  · rw [if_neg h0]
    have e : L.flatten.length = 0 := by omega
    simp only [put0_ok L e hn, Option.bind_some, List.eq_nil_of_length_eq_zero e]
theorem same_ok (a b : List Int) (h : a.length ≤ 140737488355328) : jobberbook_Same_byte ((a, b, ()), ()) = some ((odec (a = b), ()), ()) := by
  by_cases hl : (a.length : Int) = (b.length : Int)
  · have key := loop_ind (b := jobberbook_Same_byte_l4) (fun d => ∃ i : Nat, d = ((a, b, (i : Int), ()), ()) ∧ i ≤ a.length ∧ a.take i = b.take i) (fun r => (r = .inr ((), ()) ∧ a = b) ∨ (r = .inl ((false, ()), ()) ∧ a ≠ b)) (fun d => (a.length : Int).toNat - d.1.2.2.1.toNat) (by
      rintro d ⟨i, rfl, hi, ht⟩
      by_cases h1 : i < a.length
      · have ea := List.getElem?_eq_getElem h1
        have h2 : i < b.length := by omega
        have eb := List.getElem?_eq_getElem h2
        have e1 : wr .i64 ((i : Int) + 1) = ((i + 1 : Nat) : Int) := by rw [wr64 (by omega) (by omega)]; omega
        by_cases he : a[i] = b[i]
        · right
          refine ⟨((a, b, ((i + 1 : Nat) : Int), ()), ()), ?_, ⟨i + 1, rfl, by omega, ?_⟩, by simp only; omega⟩
          · simp only [jobberbook_Same_byte_l4, ot (show (i : Int) < (a.length : Int) by omega), ot (show (0 : Int) ≤ (i : Int) by omega), cond_true, Int.toNat_natCast, ea, eb, Option.bind_some, e1, ot he, Bool.not_true, cond_false]
          · rw [List.take_add_one, List.take_add_one, ea, eb, ht, he]
        · left
          refine ⟨.inl ((false, ()), ()), ?_, .inr ⟨rfl, fun e => he (by subst e; rfl)⟩⟩
          simp only [jobberbook_Same_byte_l4, ot (show (i : Int) < (a.length : Int) by omega), ot (show (0 : Int) ≤ (i : Int) by omega), cond_true, Int.toNat_natCast, ea, eb, Option.bind_some, of_ he, Bool.not_false]
      · left
        have e : i = a.length := by omega
        subst e
        refine ⟨.inr ((), ()), by simp only [jobberbook_Same_byte_l4, of_ (show ¬ (a.length : Int) < (a.length : Int) by omega), cond_false], .inl ⟨rfl, ?_⟩⟩
        rw [List.take_length] at ht
        rw [ht]; exact List.take_of_length_le (by omega))
    obtain ⟨r, hr, q⟩ := key ((a, b, 0, ()), ()) ⟨0, rfl, by omega, rfl⟩
    simp only [jobberbook_Same_byte, ot hl, Bool.not_true, cond_false, hr, Option.bind_some]
    rcases q with ⟨rfl, q⟩ | ⟨rfl, q⟩
    · simp only [ot q]
    · simp only [of_ q]
  · have : a ≠ b := fun e => hl (by rw [e])
    simp only [jobberbook_Same_byte, of_ hl, Bool.not_false, cond_true, of_ this]
theorem roomy_ok (xs : List Int) (m : Int) (h : xs.length ≤ 1000000) : jobberbook_Roomy_byte ((xs, m, ()), ()) = some ((xs ++ List.replicate 80 m, ()), ()) := by
  have w : wr .i64 ((xs.length : Int) + 80) = ((xs.length + 80 : Nat) : Int) := by rw [wr64 (by omega) (by omega)]; omega
  have key := loop_ind (b := jobberbook_Roomy_byte_l4) (fun d => ∃ (i : Nat) (R : List Int), d = ((m, (), (i : Int), ()), (R, ())) ∧ xs.length ≤ i ∧ i ≤ xs.length + 80 ∧ R.length = xs.length + 80 ∧ R.take i = xs ++ List.replicate (i - xs.length) m) (fun r => r = ((xs ++ List.replicate 80 m, ()), ())) (fun d => xs.length + 80 - d.1.2.2.1.toNat) (by
    rintro d ⟨i, R, rfl, h0, h1, hR, hT⟩
    by_cases hi : i < xs.length + 80
    · right
      have hl : i < R.length := by omega
      have e1 : wr .i64 ((i : Int) + 1) = ((i + 1 : Nat) : Int) := by rw [wr64 (by omega) (by omega)]; omega
      refine ⟨((m, (), ((i + 1 : Nat) : Int), ()), (R.set i m, ())), ?_, ⟨i + 1, _, rfl, by omega, by omega, by rw [List.length_set]; exact hR, ?_⟩, by simp only; omega⟩
      · simp only [jobberbook_Roomy_byte_l4, ot (show (i : Int) < (R.length : Int) by omega), ot (show (0 : Int) ≤ (i : Int) ∧ (i : Int) < (R.length : Int) by omega), cond_true, Int.toNat_natCast, List.getElem?_eq_getElem hl, Option.bind_some, e1]
      · rw [List.take_add_one, List.getElem?_set_self hl, List.take_set_of_le (by omega), hT, show i + 1 - xs.length = (i - xs.length) + 1 by omega, List.replicate_succ']
        simp
    · left
      have : i = xs.length + 80 := by omega
      subst this
      refine ⟨_, by simp only [jobberbook_Roomy_byte_l4, of_ (show ¬ ((xs.length + 80 : Nat) : Int) < (R.length : Int) by omega), cond_false]; rfl, ?_⟩
      rw [List.take_of_length_le (by omega)] at hT
      rw [hT, Nat.add_sub_cancel_left])
  obtain ⟨r, hr, rfl⟩ := key ((m, (), (xs.length : Int), ()), ((xs.take (List.replicate (((xs.length + 80 : Nat) : Int)).toNat (0 : Int)).length ++ (List.replicate (((xs.length + 80 : Nat) : Int)).toNat (0 : Int)).drop xs.length), ())) ⟨xs.length, _, rfl, by omega, by omega, by simp; omega, by
    rw [List.length_replicate, Int.toNat_natCast, List.take_of_length_le (show xs.length ≤ xs.length + 80 by omega), List.take_append_of_le_length (Nat.le_refl _), List.take_length, Nat.sub_self]; simp⟩
  have hroom : ((xs.length + 80 : Nat) : Int) = ((xs.length + 80 : Nat) : Int) ∧ (0 : Int) ≤ ((xs.length + 80 : Nat) : Int) ∧ ((xs.length + 80 : Nat) : Int) * ((1 : Nat) : Int) ≤ (room : Nat) := by rw [roomI]; omega
  simp only [jobberbook_Roomy_byte, w, true_and, ot hroom.2, cond_true, hr, Option.bind_some]
theorem intact_ok (xs : List Int) (m : Int) (h : xs.length ≤ 1000000) : jobberbook_Intact_byte ((xs ++ List.replicate 80 m, xs, m, ()), ()) = some ((true, ()), ()) := by
  have w : wr .i64 ((xs.length : Int) + 80) = ((xs.length + 80 : Nat) : Int) := by rw [wr64 (by omega) (by omega)]; omega
  have hl : (xs ++ List.replicate 80 m).length = xs.length + 80 := by simp
  have key := loop_ind (b := jobberbook_Intact_byte_l4) (fun d => ∃ (i : Nat), d = ((xs ++ List.replicate 80 m, m, (i : Int), ()), ()) ∧ xs.length ≤ i ∧ i ≤ xs.length + 80) (fun r => r = .inr ((), ())) (fun d => xs.length + 80 - d.1.2.2.1.toNat) (by
    rintro d ⟨i, rfl, h0, h1⟩
    by_cases hi : i < xs.length + 80
    · right
      have e1 : wr .i64 ((i : Int) + 1) = ((i + 1 : Nat) : Int) := by rw [wr64 (by omega) (by omega)]; omega
      have ex : (xs ++ List.replicate 80 m)[i]? = some m := by
        rw [List.getElem?_append_right h0, List.getElem?_replicate, if_pos (by omega)]
      refine ⟨((xs ++ List.replicate 80 m, m, ((i + 1 : Nat) : Int), ()), ()), ?_, ⟨i + 1, rfl, by omega, by omega⟩, by simp only; omega⟩
      simp only [jobberbook_Intact_byte_l4, ot (show (i : Int) < ((xs ++ List.replicate 80 m).length : Int) by omega), ot (show (0 : Int) ≤ (i : Int) by omega), cond_true, Int.toNat_natCast, ex, Option.bind_some, e1, odT, Bool.not_true, cond_false]
    · left
      exact ⟨_, by simp only [jobberbook_Intact_byte_l4, of_ (show ¬ (i : Int) < ((xs ++ List.replicate 80 m).length : Int) by omega), cond_false], rfl⟩)
  obtain ⟨r, hr, rfl⟩ := key ((xs ++ List.replicate 80 m, m, (xs.length : Int), ()), ()) ⟨xs.length, rfl, by omega, by omega⟩
  have ht : (xs ++ List.replicate 80 m).take (xs.length : Int).toNat = xs := by rw [Int.toNat_natCast, List.take_append_of_le_length (Nat.le_refl _), List.take_length]
  simp only [jobberbook_Intact_byte, w, ot (show ((xs ++ List.replicate 80 m).length : Int) = ((xs.length + 80 : Nat) : Int) by omega), Bool.not_true, cond_false, ot (show (0 : Int) ≤ (0 : Int) ∧ (0 : Int) ≤ (xs.length : Int) ∧ (xs.length : Int) ≤ ((xs ++ List.replicate 80 m).length : Int) by omega), cond_true, ht, same_ok xs xs (by omega), Option.bind_some, odT, hr]
theorem imin_take {β : Type} (l : List β) (n : Nat) (m : Int) (hm : m = (n : Int)) : l.take (imin (l.length : Int) m).toNat = l.take n ∧ 0 ≤ imin (l.length : Int) m ∧ imin (l.length : Int) m ≤ (l.length : Int) := by
  subst hm
  have e : imin (l.length : Int) (n : Int) = ((min l.length n : Nat) : Int) := by
    rw [imin]
    by_cases h : (n : Int) < (l.length : Int)
    · rw [ot h]; simp only [cond_true]; omega
    · rw [of_ h]; simp only [cond_false]; omega
  rw [e, Int.toNat_natCast]
  refine ⟨?_, by omega, by omega⟩
  rcases Nat.le_total l.length n with h | h
  · rw [Nat.min_eq_left h, List.take_length, List.take_of_length_le h]
  · rw [Nat.min_eq_right h]
/-! ### a stream, parted -/
noncomputable def hdv (a b : Int) : Int := bor .i64 (shl .i64 (wr .i64 a) 8) (wr .i64 b)
theorem hd_all {k : Nat} (h : k < 65536) : hdv (wr .u8 (shr .i64 (k : Int) 8)) (wr .u8 (k : Int)) = k := by
  have e0 : shr .i64 (k : Int) 8 = ((k / 256 : Nat) : Int) := by
    rw [shr_eq]
    have : (2 : Int) ^ (min (8 : Int).toNat IntKind.i64.bits) = 256 := by decide
    rw [this, Int.fdiv_eq_ediv_of_nonneg _ (by omega)]
    omega
  have e1 : wr .u8 ((k / 256 : Nat) : Int) = ((k / 256 : Nat) : Int) := by rw [wr_eq, IntKind.wrap_u8]; omega
  have e2 : wr .u8 (k : Int) = ((k % 256 : Nat) : Int) := by rw [wr_eq, IntKind.wrap_u8]; omega
  have e3 : shl .i64 ((k / 256 : Nat) : Int) 8 = ((k / 256 * 256 : Nat) : Int) := by
    rw [shl]
    have : (2 : Int) ^ (min (8 : Int).toNat IntKind.i64.bits) = 256 := by decide
    rw [this, wr64 (by omega) (by omega)]; omega
  rw [hdv, e0, e1, e2, wr64 (n := ((k / 256 : Nat) : Int)) (by omega) (by omega), wr64 (n := ((k % 256 : Nat) : Int)) (by omega) (by omega), e3, bor]
  have e4 : (BitVec.ofInt IntKind.i64.bits ((k / 256 * 256 : Nat) : Int) ||| BitVec.ofInt IntKind.i64.bits ((k % 256 : Nat) : Int)).toNat = k := by
    show (BitVec.ofInt 64 ((k / 256 * 256 : Nat) : Int) ||| BitVec.ofInt 64 ((k % 256 : Nat) : Int)).toNat = k
    rw [BitVec.toNat_or, BitVec.toNat_ofInt, BitVec.toNat_ofInt]
    have h1 : (((k / 256 * 256 : Nat) : Int) % ((2 ^ 64 : Nat) : Int)).toNat = k / 256 * 256 := by omega
    have h2 : (((k % 256 : Nat) : Int) % ((2 ^ 64 : Nat) : Int)).toNat = k % 256 := by omega
    rw [h1, h2]
    have := Nat.shiftLeft_add_eq_or_of_lt (show k % 256 < 2 ^ 8 from Nat.mod_lt _ (by decide)) (k / 256)
    rw [Nat.shiftLeft_eq] at this
    rw [← show k / 256 * 2 ^ 8 = k / 256 * 256 from rfl] at *
    rw [← this]
    omega
  rw [e4, wr64 (by omega) (by omega)]
theorem hd_ok {k : Nat} (h : k ≤ 256) : hdv (wr .u8 (shr .i64 (k : Int) 8)) (wr .u8 (k : Int)) = k := hd_all (by omega)
theorem hd0 {k : Nat} (h : k < 256) : hdv 0 (k : Int) = k := by
  have := hd_all (show k < 65536 by omega)
  have e0 : shr .i64 (k : Int) 8 = 0 := by
    rw [shr_eq]
    have : (2 : Int) ^ (min (8 : Int).toNat IntKind.i64.bits) = 256 := by decide
    rw [this, Int.fdiv_eq_ediv_of_nonneg _ (by omega)]
    omega
  have e1 : wr .u8 (k : Int) = (k : Int) := by rw [wr_eq, IntKind.wrap_u8]; omega
  have e2 : wr .u8 0 = 0 := by rw [wr_eq]; decide
  rw [e0, e1, e2] at this
  exact this
/-- a body behind its length -/
noncomputable def fr (p : List Int) : List Int := [wr .u8 (shr .i64 (p.length : Int) 8), wr .u8 (p.length : Int)] ++ p
theorem fr_len (p : List Int) : (fr p).length = p.length + 2 := by rw [fr, List.length_append]; simp; omega
/-- the bodies of a stream; what is left; whether it is bad -/
noncomputable def parse (s : List Int) : List (List Int) × List Int × Bool :=
  match s with
  | a :: b :: t => if h : 1 ≤ hdv a b ∧ hdv a b ≤ 256 then (if h2 : (t.length : Int) < hdv a b then ([], a :: b :: t, false) else
      (t.take (hdv a b).toNat :: (parse (t.drop (hdv a b).toNat)).1, (parse (t.drop (hdv a b).toNat)).2))
    else ([], [], true)
  | s => ([], s, false)
termination_by s.length
decreasing_by all_goals (simp only [List.length_drop, List.length_cons]; omega)
theorem parse_0 : parse [] = ([], [], false) := by rw [parse]; intro a b t h; cases h
theorem parse_1 (a : Int) : parse [a] = ([], [a], false) := by rw [parse]; intro a b t h; cases h
theorem parse_no {a b : Int} (t : List Int) (h : ¬ (1 ≤ hdv a b ∧ hdv a b ≤ 256)) : parse (a :: b :: t) = ([], [], true) := by rw [parse, dif_neg h]
theorem parse_few {a b : Int} {t : List Int} (h : 1 ≤ hdv a b ∧ hdv a b ≤ 256) (h2 : (t.length : Int) < hdv a b) : parse (a :: b :: t) = ([], a :: b :: t, false) := by rw [parse, dif_pos h, dif_pos h2]
theorem parse_go {a b : Int} {t : List Int} (h : 1 ≤ hdv a b ∧ hdv a b ≤ 256) (h2 : ¬ (t.length : Int) < hdv a b) : parse (a :: b :: t) = (t.take (hdv a b).toNat :: (parse (t.drop (hdv a b).toNat)).1, (parse (t.drop (hdv a b).toNat)).2) := by rw [parse, dif_pos h, dif_neg h2]
theorem stream_ind {Q : List Int → Prop} (h0 : Q []) (h1 : ∀ a, Q [a]) (hn : ∀ a b t, ¬ (1 ≤ hdv a b ∧ hdv a b ≤ 256) → Q (a :: b :: t)) (hf : ∀ a b t, (1 ≤ hdv a b ∧ hdv a b ≤ 256) → (t.length : Int) < hdv a b → Q (a :: b :: t))
    (hg : ∀ a b t, (1 ≤ hdv a b ∧ hdv a b ≤ 256) → ¬ (t.length : Int) < hdv a b → Q (t.drop (hdv a b).toNat) → Q (a :: b :: t)) : ∀ s, Q s := by
  have key : ∀ n s, s.length ≤ n → Q s := by
    intro n
    induction n with
    | zero => intro s hs; have : s = [] := List.eq_nil_of_length_eq_zero (by omega); subst this; exact h0
    | succ n ih =>
      intro s hs
      match s, hs with
      | [], _ => exact h0
      | [a], _ => exact h1 a
      | a :: b :: t, hs =>
        by_cases c : 1 ≤ hdv a b ∧ hdv a b ≤ 256
        · by_cases c2 : (t.length : Int) < hdv a b
          · exact hf a b t c c2
          · exact hg a b t c c2 (ih _ (by simp only [List.length_drop, List.length_cons] at hs ⊢; omega))
        · exact hn a b t c
  exact fun s => key s.length s (Nat.le_refl _)
theorem parse_app (t : List Int) : ∀ s, (parse s).2.2 = false → parse (s ++ t) = ((parse s).1 ++ (parse ((parse s).2.1 ++ t)).1, (parse ((parse s).2.1 ++ t)).2) := by
  refine stream_ind ?_ ?_ ?_ ?_ ?_
  · intro _; rw [parse_0]; rfl
  · intro a _; rw [parse_1]; rfl
  · intro a b u h h2; rw [parse_no u h] at h2; cases h2
  · intro a b u h h2 _; rw [parse_few h h2]; rfl
  · intro a b u h h2 ih hb
    rw [parse_go h h2] at hb ⊢
    have h3 : ¬ ((u ++ t).length : Int) < hdv a b := by rw [List.length_append]; omega
    simp only [List.cons_append]
    rw [parse_go h h3, List.take_append_of_le_length (by omega), List.drop_append_of_le_length (by omega), ih hb]
theorem parse_bad (t : List Int) : ∀ s, (parse s).2.2 = true → parse (s ++ t) = parse s ∧ (parse s).2.1 = [] := by
  refine stream_ind ?_ ?_ ?_ ?_ ?_
  · intro h; rw [parse_0] at h; cases h
  · intro a h; rw [parse_1] at h; cases h
  · intro a b u h _; simp only [List.cons_append]; rw [parse_no _ h, parse_no _ h]; exact ⟨rfl, rfl⟩
  · intro a b u h h2 h3; rw [parse_few h h2] at h3; cases h3
  · intro a b u h h2 ih hb
    rw [parse_go h h2] at hb ⊢
    have h3 : ¬ ((u ++ t).length : Int) < hdv a b := by rw [List.length_append]; omega
    obtain ⟨i1, i2⟩ := ih hb
    simp only [List.cons_append]
    rw [parse_go h h3, List.take_append_of_le_length (by omega), List.drop_append_of_le_length (by omega), i1]
    exact ⟨rfl, i2⟩
theorem parse_left : ∀ s, (parse s).2.2 = false → parse (parse s).2.1 = ([], (parse s).2.1, false) := by
  refine stream_ind ?_ ?_ ?_ ?_ ?_
  · intro _; rw [parse_0]; exact parse_0
  · intro a _; rw [parse_1]; exact parse_1 a
  · intro a b u h h2; rw [parse_no u h] at h2; cases h2
  · intro a b u h h2 _; rw [parse_few h h2]; exact parse_few h h2
  · intro a b u h h2 ih hb
    rw [parse_go h h2] at hb ⊢
    exact ih hb
theorem parse_len : ∀ s, (parse s).1.length + (parse s).2.1.length ≤ s.length := by
  refine stream_ind ?_ ?_ ?_ ?_ ?_
  · rw [parse_0]; exact Nat.le_refl _
  · intro a; rw [parse_1]; simp
  · intro a b u h; rw [parse_no u h]; simp
  · intro a b u h h2; rw [parse_few h h2]; simp
  · intro a b u h h2 ih
    rw [parse_go h h2]
    simp only [List.length_drop, List.length_cons] at ih ⊢
    omega
theorem parse_small : ∀ s, (parse s).2.1.length ≤ 257 := by
  refine stream_ind ?_ ?_ ?_ ?_ ?_
  · rw [parse_0]; simp
  · intro a; rw [parse_1]; simp
  · intro a b u h; rw [parse_no u h]; simp
  · intro a b u h h2; rw [parse_few h h2]; simp only [List.length_cons]; omega
  · intro a b u h h2 ih; rw [parse_go h h2]; exact ih
theorem parse_fr {p : List Int} (h0 : 1 ≤ p.length) (h1 : p.length ≤ 256) (t : List Int) : parse (fr p ++ t) = (p :: (parse t).1, (parse t).2) := by
  have e : fr p ++ t = wr .u8 (shr .i64 (p.length : Int) 8) :: wr .u8 (p.length : Int) :: (p ++ t) := by simp [fr]
  have hh := hd_ok h1
  rw [e, parse_go (by rw [hh]; omega) (by rw [hh, List.length_append]; omega), hh]
  simp
theorem parse_part {p : List Int} (h0 : 1 ≤ p.length) (h1 : p.length ≤ 256) {k : Nat} (hk : k < (fr p).length) : parse ((fr p).take k) = ([], (fr p).take k, false) := by
  rw [fr_len] at hk
  have e : fr p = wr .u8 (shr .i64 (p.length : Int) 8) :: wr .u8 (p.length : Int) :: p := by simp [fr]
  have hh := hd_ok h1
  rw [e]
  match k with
  | 0 => exact parse_0
  | 1 => exact parse_1 _
  | k + 2 =>
    simp only [List.take_succ_cons]
    exact parse_few (by rw [hh]; omega) (by rw [hh, List.length_take]; omega)
/-! ### the program's -/
theorem may5 (n : Int) : frame_may ((n, ()), ()) = some ((decide (1 ≤ n ∧ n ≤ 256), ()), ()) := by
  simp only [frame_may, odec_eq]
  by_cases h : n ≥ 1
  · by_cases h2 : n ≤ 256
    · simp [h, h2]
    · simp [h, h2]
  · simp [h]
theorem loop5 : ∀ (s : List Int) (out : List (List Int)), out.length + s.length ≤ 1000000 → loopFix frame_Deframer_Feed_l5 (((), (), ()), ((s, false, ()), out, ())) = some ((out ++ (parse s).1, ()), (((parse s).2.1, (parse s).2.2, ()), ())) := by
  have o2 : odec ((8 : Int) < 0) = false := of_ (by omega)
  refine stream_ind ?_ ?_ ?_ ?_ ?_
  · intro out _
    rw [loopFix_eq]
    simp only [frame_Deframer_Feed_l5, of_ (show ¬ (([] : List Int).length : Int) ≥ 2 by simp), cond_false, parse_0, List.append_nil]
  · intro a out _
    rw [loopFix_eq]
    simp only [frame_Deframer_Feed_l5, of_ (show ¬ (([a] : List Int).length : Int) ≥ 2 by simp), cond_false, parse_1, List.append_nil]
  · intro a b t h out _
    rw [loopFix_eq]
    have hm := may5 (hdv a b)
    rw [show decide (1 ≤ hdv a b ∧ hdv a b ≤ 256) = false from decide_eq_false h, hdv] at hm
    simp only [frame_Deframer_Feed_l5, ot (show ((a :: b :: t).length : Int) ≥ 2 by simp only [List.length_cons]; omega), cond_true, ot (show (0 : Int) ≤ 0 by omega), ot (show (0 : Int) ≤ 1 by omega), o2, cond_false, show (0 : Int).toNat = 0 from rfl, show (1 : Int).toNat = 1 from rfl, List.getElem?_cons_zero, List.getElem?_cons_succ, Option.bind_some, hm, Bool.not_false, parse_no t h, List.append_nil]
  · intro a b t h h2 out hl
    rw [loopFix_eq]
    have hm := may5 (hdv a b)
    rw [show decide (1 ≤ hdv a b ∧ hdv a b ≤ 256) = true from decide_eq_true h, hdv] at hm
    have e1 : wr .i64 (((a :: b :: t).length : Int) - 2) = (t.length : Int) := by simp only [List.length_cons] at hl ⊢; rw [wr64 (by omega) (by omega)]; omega
    have e2 := ot h2
    rw [hdv] at e2
    simp only [frame_Deframer_Feed_l5, ot (show ((a :: b :: t).length : Int) ≥ 2 by simp only [List.length_cons]; omega), cond_true, ot (show (0 : Int) ≤ 0 by omega), ot (show (0 : Int) ≤ 1 by omega), o2, cond_false, show (0 : Int).toNat = 0 from rfl, show (1 : Int).toNat = 1 from rfl, List.getElem?_cons_zero, List.getElem?_cons_succ, Option.bind_some, hm, Bool.not_true, e1, e2, parse_few h h2, List.append_nil]
  · intro a b t h h2 ih out hl
    rw [loopFix_eq]
    have hm := may5 (hdv a b)
    rw [show decide (1 ≤ hdv a b ∧ hdv a b ≤ 256) = true from decide_eq_true h] at hm
    have e1 : wr .i64 (((a :: b :: t).length : Int) - 2) = (t.length : Int) := by simp only [List.length_cons] at hl ⊢; rw [wr64 (by omega) (by omega)]; omega
    have e2 := of_ h2
    obtain ⟨n, hn⟩ : ∃ n : Nat, hdv a b = (n : Int) := ⟨(hdv a b).toNat, by omega⟩
    have e3 : wr .i64 (2 + hdv a b) = ((n + 2 : Nat) : Int) := by rw [hn] at h ⊢; rw [wr64 (by omega) (by omega)]; omega
    have hl2 : ((a :: b :: t).length : Int) = (t.length : Int) + 2 := by simp only [List.length_cons]; omega
    rw [hn] at h2
    have e4 : odec (0 ≤ (2 : Int) ∧ (2 : Int) ≤ ((n + 2 : Nat) : Int) ∧ ((n + 2 : Nat) : Int) ≤ ((a :: b :: t).length : Int)) = true := ot (by omega)
    have e5 : odec (0 ≤ ((n + 2 : Nat) : Int) ∧ ((n + 2 : Nat) : Int) ≤ ((a :: b :: t).length : Int) ∧ ((a :: b :: t).length : Int) ≤ ((a :: b :: t).length : Int)) = true := ot (by omega)
    have e6 : ((a :: b :: t).take (n + 2)).drop 2 = t.take n := by simp
    have e7 : (a :: b :: t).drop (n + 2) = t.drop n := by simp
    have hl3 : out.length + (t.length + 2) ≤ 1000000 := by simp only [List.length_cons] at hl; omega
    have e8 := clone_ok (t.take n) (by rw [List.length_take]; omega)
    have e9 := clone_ok (t.drop n) (by rw [List.length_drop]; omega)
    have e10 : odec (((out.length + ([t.take n] : List (List Int)).length : Nat) : Int) * ((24 : Nat) : Int) ≤ (room : Nat)) = true := ot (by rw [roomI]; simp only [List.length_cons, List.length_nil]; omega)
    have hi := ih (out ++ [t.take n]) (by rw [hn]; simp only [List.length_append, List.length_cons, List.length_nil, List.length_drop]; omega)
    rw [hn, Int.toNat_natCast] at hi
    have hmv := parse_go h (by rw [hn]; exact h2)
    rw [hn, Int.toNat_natCast] at hmv
    rw [hmv]
    rw [hdv] at hm e2 e3
    simp only [frame_Deframer_Feed_l5, ot (show ((a :: b :: t).length : Int) ≥ 2 by omega), cond_true, ot (show (0 : Int) ≤ 0 by omega), ot (show (0 : Int) ≤ 1 by omega), o2, cond_false, show (0 : Int).toNat = 0 from rfl, show (1 : Int).toNat = 1 from rfl, show (2 : Int).toNat = 2 from rfl, List.getElem?_cons_zero, List.getElem?_cons_succ, Option.bind_some, hm, Bool.not_true, e1, e2, e3, e4, e5, Int.toNat_natCast, e6, e7, e8, e9, e10]
    rw [hi]
    simp
theorem concat2 (s b : List Int) (h : s.length + b.length ≤ 1000000) : slices_Concat_byte_byte (([s, b], ()), ()) = some ((s ++ b, ()), ()) := by
  have := concat_ok [s, b] (by simp; omega) (by simp)
  simpa using this
theorem feed5 (s b : List Int) (h : s.length + b.length ≤ 1000000) : frame_Deframer_Feed (((), b, ()), ((s, false, ()), ())) = some (.inr (((parse (s ++ b)).1, ()), (((parse (s ++ b)).2.1, (parse (s ++ b)).2.2, ()), ()))) := by
  simp only [frame_Deframer_Feed, cond_false, concat2 s b h, Option.bind_some, loop5 (s ++ b) [] (by rw [List.length_append]; simpa using h), List.nil_append]
theorem feedB (s b : List Int) : frame_Deframer_Feed (((), b, ()), ((s, true, ()), ())) = some (.inl (((), ()), ((s, true, ()), [], ()))) := by
  simp only [frame_Deframer_Feed, cond_true]
theorem parse_bodies : ∀ s, ∀ x ∈ (parse s).1, x.length ≤ 256 := by
  refine stream_ind ?_ ?_ ?_ ?_ ?_
  · rw [parse_0]; intro x h; cases h
  · intro a; rw [parse_1]; intro x h; cases h
  · intro a b u h; rw [parse_no u h]; intro x h; cases h
  · intro a b u h h2; rw [parse_few h h2]; intro x h; cases h
  · intro a b u h h2 ih
    rw [parse_go h h2]
    intro x hx
    rcases List.mem_cons.1 hx with rfl | hx
    · rw [List.length_take]; omega
    · exact ih x hx
theorem ref_loop : ∀ (s : List Int) (out : List (List Int)), out.length + s.length ≤ 1000000 → loopFix jobberref1_Deframer_Feed_l5 (((), (), ()), ((s, false, ()), out, ())) =
    some (bif (parse s).2.2 then .inl (((), ()), (([], true, ()), out ++ (parse s).1, ())) else .inr ((out ++ (parse s).1, ()), (((parse s).2.1, false, ()), ()))) := by
  have o2 : odec ((8 : Int) < 0) = false := of_ (by omega)
  refine stream_ind ?_ ?_ ?_ ?_ ?_
  · intro out _
    rw [loopFix_eq]
    simp only [jobberref1_Deframer_Feed_l5, of_ (show ¬ (([] : List Int).length : Int) ≥ 2 by simp), cond_false, parse_0, List.append_nil]
  · intro a out _
    rw [loopFix_eq]
    simp only [jobberref1_Deframer_Feed_l5, of_ (show ¬ (([a] : List Int).length : Int) ≥ 2 by simp), cond_false, parse_1, List.append_nil]
  · intro a b t h out _
    rw [loopFix_eq]
    by_cases h1 : hdv a b < 1
    · have e1 := ot h1
      rw [hdv] at e1
      simp only [jobberref1_Deframer_Feed_l5, ot (show ((a :: b :: t).length : Int) ≥ 2 by simp only [List.length_cons]; omega), cond_true, ot (show (0 : Int) ≤ 0 by omega), ot (show (0 : Int) ≤ 1 by omega), o2, cond_false, show (0 : Int).toNat = 0 from rfl, show (1 : Int).toNat = 1 from rfl, List.getElem?_cons_zero, List.getElem?_cons_succ, Option.bind_some, e1, parse_no t h, List.append_nil]
    · have e1 := of_ h1
      have e2 := ot (show hdv a b > 256 by omega)
      rw [hdv] at e1 e2
      simp only [jobberref1_Deframer_Feed_l5, ot (show ((a :: b :: t).length : Int) ≥ 2 by simp only [List.length_cons]; omega), cond_true, ot (show (0 : Int) ≤ 0 by omega), ot (show (0 : Int) ≤ 1 by omega), o2, cond_false, show (0 : Int).toNat = 0 from rfl, show (1 : Int).toNat = 1 from rfl, List.getElem?_cons_zero, List.getElem?_cons_succ, Option.bind_some, e1, e2, parse_no t h, List.append_nil]
  · intro a b t h h2 out hl
    rw [loopFix_eq]
    have e3 := of_ (show ¬ hdv a b < 1 by omega)
    have e4 := of_ (show ¬ hdv a b > 256 by omega)
    have e1 : wr .i64 (((a :: b :: t).length : Int) - 2) = (t.length : Int) := by simp only [List.length_cons] at hl ⊢; rw [wr64 (by omega) (by omega)]; omega
    have e2 := ot h2
    rw [hdv] at e2 e3 e4
    simp only [jobberref1_Deframer_Feed_l5, ot (show ((a :: b :: t).length : Int) ≥ 2 by simp only [List.length_cons]; omega), cond_true, ot (show (0 : Int) ≤ 0 by omega), ot (show (0 : Int) ≤ 1 by omega), o2, cond_false, show (0 : Int).toNat = 0 from rfl, show (1 : Int).toNat = 1 from rfl, List.getElem?_cons_zero, List.getElem?_cons_succ, Option.bind_some, e1, e2, e3, e4, parse_few h h2, List.append_nil]
  · intro a b t h h2 ih out hl
    rw [loopFix_eq]
    have f3 := of_ (show ¬ hdv a b < 1 by omega)
    have f4 := of_ (show ¬ hdv a b > 256 by omega)
    have e1 : wr .i64 (((a :: b :: t).length : Int) - 2) = (t.length : Int) := by simp only [List.length_cons] at hl ⊢; rw [wr64 (by omega) (by omega)]; omega
    have e2 := of_ h2
    obtain ⟨n, hn⟩ : ∃ n : Nat, hdv a b = (n : Int) := ⟨(hdv a b).toNat, by omega⟩
    have e3 : wr .i64 (2 + hdv a b) = ((n + 2 : Nat) : Int) := by rw [hn] at h ⊢; rw [wr64 (by omega) (by omega)]; omega
    have hl2 : ((a :: b :: t).length : Int) = (t.length : Int) + 2 := by simp only [List.length_cons]; omega
    rw [hn] at h2
    have e4 : odec (0 ≤ (2 : Int) ∧ (2 : Int) ≤ ((n + 2 : Nat) : Int) ∧ ((n + 2 : Nat) : Int) ≤ ((a :: b :: t).length : Int)) = true := ot (by omega)
    have e5 : odec (0 ≤ ((n + 2 : Nat) : Int) ∧ ((n + 2 : Nat) : Int) ≤ ((a :: b :: t).length : Int) ∧ ((a :: b :: t).length : Int) ≤ ((a :: b :: t).length : Int)) = true := ot (by omega)
    have e6 : ((a :: b :: t).take (n + 2)).drop 2 = t.take n := by simp
    have e7 : (a :: b :: t).drop (n + 2) = t.drop n := by simp
    have hl3 : out.length + (t.length + 2) ≤ 1000000 := by simp only [List.length_cons] at hl; omega
    have e8 : odec (((([] : List Int).length + (t.take n).length : Nat) : Int) * ((1 : Nat) : Int) ≤ (room : Nat)) = true := inRoom (by simp only [List.length_nil, List.length_take]; omega)
    have e9 : odec (((([] : List Int).length + (t.drop n).length : Nat) : Int) * ((1 : Nat) : Int) ≤ (room : Nat)) = true := inRoom (by simp only [List.length_nil, List.length_drop]; omega)
    have e10 : odec (((out.length + ([t.take n] : List (List Int)).length : Nat) : Int) * ((24 : Nat) : Int) ≤ (room : Nat)) = true := ot (by rw [roomI]; simp only [List.length_cons, List.length_nil]; omega)
    have hi := ih (out ++ [t.take n]) (by rw [hn]; simp only [List.length_append, List.length_cons, List.length_nil, List.length_drop]; omega)
    rw [hn, Int.toNat_natCast] at hi
    have hmv := parse_go h (by rw [hn]; exact h2)
    rw [hn, Int.toNat_natCast] at hmv
    rw [hmv]
    rw [hdv] at f3 f4 e2 e3
    simp only [jobberref1_Deframer_Feed_l5, ot (show ((a :: b :: t).length : Int) ≥ 2 by omega), cond_true, ot (show (0 : Int) ≤ 0 by omega), ot (show (0 : Int) ≤ 1 by omega), o2, cond_false, show (0 : Int).toNat = 0 from rfl, show (1 : Int).toNat = 1 from rfl, show (2 : Int).toNat = 2 from rfl, List.getElem?_cons_zero, List.getElem?_cons_succ, Option.bind_some, f3, f4, e1, e2, e3, e4, e5, Int.toNat_natCast, e6, e7, e8, e9, e10, List.nil_append]
    rw [hi]
    simp
theorem refFeed5 (s b : List Int) (h : s.length + b.length ≤ 1000000) : jobberref1_Deframer_Feed (((), b, ()), ((s, false, ()), ())) =
    some (bif (parse (s ++ b)).2.2 then .inl (((), ()), (([], true, ()), (parse (s ++ b)).1, ())) else .inr (((parse (s ++ b)).1, ()), (((parse (s ++ b)).2.1, false, ()), ()))) := by
  have e1 : odec (((([] : List Int).length + s.length : Nat) : Int) * ((1 : Nat) : Int) ≤ (room : Nat)) = true := inRoom (by simp only [List.length_nil]; omega)
  have e2 : odec (((s.length + b.length : Nat) : Int) * ((1 : Nat) : Int) ≤ (room : Nat)) = true := inRoom (by omega)
  simp only [jobberref1_Deframer_Feed, cond_false, e1, cond_true, List.nil_append, e2, ref_loop (s ++ b) [] (by rw [List.length_append]; simpa using h), Option.bind_some]
  cases (parse (s ++ b)).2.2 <;> rfl
theorem refFeedB (s b : List Int) : jobberref1_Deframer_Feed (((), b, ()), ((s, true, ()), ())) = some (.inl (((), ()), ((s, true, ()), [], ()))) := by
  simp only [jobberref1_Deframer_Feed, cond_true]
theorem rows_ok (a : List (List Int)) (h : a.length ≤ 1000000) (hx : ∀ x ∈ a, x.length ≤ 1000000) : jobberlaw5_rows ((a, a, ()), ()) = some ((true, ()), ()) := by
  have key := loop_ind (b := jobberlaw5_rows_l4) (fun d => ∃ i : Nat, d = ((a, a, (a.length : Int), (i : Int), ()), ()) ∧ i ≤ a.length) (fun r => r = .inr ((), ())) (fun d => (a.length : Int).toNat - d.1.2.2.2.1.toNat) (by
    rintro d ⟨i, rfl, hi⟩
    by_cases h1 : i < a.length
    · right
      have ea := List.getElem?_eq_getElem h1
      have e1 : wr .i64 ((i : Int) + 1) = ((i + 1 : Nat) : Int) := by rw [wr64 (by omega) (by omega)]; omega
      have es := same_ok a[i] a[i] (by have := hx _ (List.getElem_mem h1); omega)
      refine ⟨((a, a, (a.length : Int), ((i + 1 : Nat) : Int), ()), ()), ?_, ⟨i + 1, rfl, by omega⟩, by simp only; omega⟩
      simp only [jobberlaw5_rows_l4, ot (show (i : Int) < (a.length : Int) by omega), ot (show (0 : Int) ≤ (i : Int) by omega), cond_true, Int.toNat_natCast, ea, Option.bind_some, es, odT, Bool.not_true, cond_false, e1]
    · left
      exact ⟨_, by simp only [jobberlaw5_rows_l4, of_ (show ¬ (i : Int) < (a.length : Int) by omega), cond_false], rfl⟩)
  obtain ⟨r, hr, rfl⟩ := key ((a, a, (a.length : Int), 0, ()), ()) ⟨0, rfl, by omega⟩
  simp only [jobberlaw5_rows, odT, Bool.not_true, cond_false, hr, Option.bind_some]
theorem put5 (p : List Int) (h0 : 1 ≤ p.length) (h1 : p.length ≤ 256) : frame_Put ((p, ()), ()) = some ((fr p, ()), ()) := by
  have hm := may5 (p.length : Int)
  rw [show decide (1 ≤ (p.length : Int) ∧ (p.length : Int) ≤ 256) = true from decide_eq_true (by omega)] at hm
  have e : odec (((([(wr .u8 (shr .i64 (p.length : Int) 8)), (wr .u8 (p.length : Int))] : List Int).length + p.length : Nat) : Int) * ((1 : Nat) : Int) ≤ (room : Nat)) = true := inRoom (by simp only [List.length_cons, List.length_nil]; omega)
  simp only [frame_Put, hm, Option.bind_some, Bool.not_true, cond_false, of_ (show ¬ (8 : Int) < 0 by omega), e, cond_true, fr]
theorem put5_no (p : List Int) (h : p.length < 1 ∨ 256 < p.length) : frame_Put ((p, ()), ()) = some (([], ()), ()) := by
  have hm := may5 (p.length : Int)
  rw [show decide (1 ≤ (p.length : Int) ∧ (p.length : Int) ≤ 256) = false from decide_eq_false (by omega)] at hm
  simp only [frame_Put, hm, Option.bind_some, Bool.not_false, cond_true]
theorem refPut5 (p : List Int) : ∃ q, frame_Put ((p, ()), ()) = some ((q, ()), ()) ∧ jobberref1_Frame ((p, ()), ()) = some (((), ()), (q, ())) ∧ q.length ≤ 300 := by
  by_cases h0 : 1 ≤ p.length
  · by_cases h1 : p.length ≤ 256
    · refine ⟨fr p, put5 p h0 h1, ?_, by rw [fr_len]; omega⟩
      have e : odec (((([(wr .u8 (shr .i64 (p.length : Int) 8)), (wr .u8 (p.length : Int))] : List Int).length + p.length : Nat) : Int) * ((1 : Nat) : Int) ≤ (room : Nat)) = true := inRoom (by simp only [List.length_cons, List.length_nil]; omega)
      simp only [jobberref1_Frame, of_ (show ¬ (p.length : Int) < 1 by omega), of_ (show ¬ (p.length : Int) > 256 by omega), cond_false, of_ (show ¬ (8 : Int) < 0 by omega), e, cond_true, fr]
    · refine ⟨[], put5_no p (by omega), ?_, by simp⟩
      simp only [jobberref1_Frame, of_ (show ¬ (p.length : Int) < 1 by omega), ot (show (p.length : Int) > 256 by omega), cond_false, cond_true]
  · refine ⟨[], put5_no p (by omega), ?_, by simp⟩
    simp only [jobberref1_Frame, ot (show (p.length : Int) < 1 by omega), cond_true]
theorem bad5 (s : List Int) (b : Bool) : frame_Deframer_Bad (((), ()), ((s, b, ()), ())) = some ((b, ()), ((s, b, ()), ())) := rfl
theorem left5 (s : List Int) (b : Bool) : frame_Deframer_Left (((), ()), ((s, b, ()), ())) = some (((s.length : Int), ()), ((s, b, ()), ())) := rfl
theorem jobberlaw5_FrameRuns.law : jobberlaw5_FrameRuns ((), ()) = some ((true, ()), ()) := by
  have h1 : hdv 0 1 = 1 := hd0 (k := 1) (by omega)
  have h2 : hdv 0 2 = 2 := hd0 (k := 2) (by omega)
  have h0 : hdv 0 0 = 0 := hd0 (k := 0) (by omega)
  have p1 : parse [0, 1, 97, 0] = ([[97]], [0], false) := by
    rw [parse_go (by rw [h1]; decide) (by rw [h1]; decide), h1]
    show ([97] :: (parse [0]).1, (parse [0]).2) = _
    rw [parse_1]
  have p2 : parse [0, 2, 98, 99] = ([[98, 99]], [], false) := by
    rw [parse_go (by rw [h2]; decide) (by rw [h2]; decide), h2]
    show ([98, 99] :: (parse []).1, (parse []).2) = _
    rw [parse_0]
  have p3 : parse [0, 0, 0] = ([], [], true) := parse_no _ (by rw [h0]; decide)
  have f1 := feed5 [] [0, 1, 97, 0] (by decide)
  have f2 := feed5 [0] [2, 98, 99] (by decide)
  have f3 := feed5 [] [0, 0, 0] (by decide)
  simp only [List.nil_append, List.cons_append, p1, p2, p3] at f1 f2 f3
  have r1 := rows_ok [[97]] (by decide) (by decide)
  have r2 := rows_ok [[98, 99]] (by decide) (by decide)
  simp only [jobberlaw5_FrameRuns, frame_New, Option.bind_some, f1, f2, f3, r1, r2, cond_true, List.length_nil, bad5, left5]
  rw [ot (show ((0 : Nat) : Int) = 0 from rfl)]; rfl
theorem jobberlaw5_FrameLong.law0 (n : Int) (b : List Int) (hn : Rng (.int .i64) n) : jobberlaw5_FrameLong ((n, b, ()), ()) = some ((true, ()), ()) := by
  obtain ⟨k', k0, k1, kw⟩ := within5 (v := n) (lo := 1) (hi := 300) (rng64 hn) (by omega) (by omega) (by omega) (by omega)
  obtain ⟨k, rfl⟩ : ∃ k : Nat, k' = (k : Int) := ⟨k'.toNat, by omega⟩
  have hl : (List.replicate k (0 : Int)).length = k := List.length_replicate
  have e0 : odec ((k : Int) = (k : Int) ∧ 0 ≤ (k : Int) ∧ (k : Int) * ((1 : Nat) : Int) ≤ (room : Nat)) = true := ot (by rw [roomI]; omega)
  have e1 : odec (((([(wr .u8 (shr .i64 (k : Int) 8)), (wr .u8 (k : Int))] : List Int).length + (List.replicate k (0 : Int)).length : Nat) : Int) * ((1 : Nat) : Int) ≤ (room : Nat)) = true := inRoom (by simp only [List.length_cons, List.length_nil, List.length_replicate]; omega)
  have hfr : fr (List.replicate k (0 : Int)) = [(wr .u8 (shr .i64 (k : Int) 8)), (wr .u8 (k : Int))] ++ List.replicate k (0 : Int) := by rw [fr, hl]
  have f1 := feed5 [] (fr (List.replicate k (0 : Int))) (by rw [fr_len, hl]; simp; omega)
  rw [List.nil_append] at f1
  have hw : wr .i64 ((k : Int) + 2) = ((k + 2 : Nat) : Int) := by rw [wr64 (by omega) (by omega)]; omega
  have q0 := put5_no [] (.inl (by simp))
  simp only [jobberlaw5_FrameLong, kw, Option.bind_some, true_and] at *
  simp only [e0, cond_true, frame_New, Option.bind_some, of_ (show ¬ (8 : Int) < 0 by omega), cond_false, Int.toNat_natCast, e1]
  rw [← hfr, f1]
  by_cases hk : k ≤ 256
  · have hp := parse_fr (p := List.replicate k (0 : Int)) (by rw [hl]; omega) (by rw [hl]; exact hk) []
    rw [List.append_nil, parse_0] at hp
    have q1 := put5 (List.replicate k (0 : Int)) (by rw [hl]; omega) (by rw [hl]; exact hk)
    have r1 := rows_ok [List.replicate k (0 : Int)] (by simp) (by intro x hx; simp only [List.mem_singleton] at hx; rw [hx, hl]; omega)
    simp only [hp, q1, q0, Option.bind_some, bad5, left5, fr_len, hl, hw, ot (show (k : Int) ≤ 256 by omega), odT, boolEq_eq, List.length_nil, List.length_cons, ot (show ((0 : Nat) : Int) = 0 from rfl), ot (show ((0 + 1 : Nat) : Int) = 1 from rfl), cond_true, cond_false, Bool.not_true, Bool.not_false, r1, jobberlaw5_FrameRuns.law, beq_self_eq_true, show (false == true) = false from rfl]
  · have hp : parse (fr (List.replicate k (0 : Int))) = ([], [], true) := by
      have e : fr (List.replicate k (0 : Int)) = wr .u8 (shr .i64 (k : Int) 8) :: wr .u8 (k : Int) :: List.replicate k (0 : Int) := by simp [fr]
      rw [e]
      exact parse_no _ (by rw [hd_all (by omega)]; omega)
    have q1 := put5_no (List.replicate k (0 : Int)) (.inr (by rw [hl]; omega))
    obtain ⟨i1, i2, i3⟩ := imin_take b 40 40 rfl
    have e2 : odec (0 ≤ (0 : Int) ∧ (0 : Int) ≤ (imin (b.length : Int) 40) ∧ (imin (b.length : Int) 40) ≤ (b.length : Int)) = true := ot ⟨by omega, i2, i3⟩
    have e3 : odec (((0 + 1 + 1 + 1 + (b.take 40).length : Nat) : Int) * ((1 : Nat) : Int) ≤ (room : Nat)) = true := inRoom (by simp only [List.length_take]; omega)
    simp only [hp, q1, q0, Option.bind_some, bad5, left5, hw, of_ (show ¬ (k : Int) ≤ 256 by omega), odT, boolEq_eq, List.length_nil, List.length_cons, ot (show ((0 : Nat) : Int) = 0 from rfl), of_ (show ¬ ((0 : Nat) : Int) = ((k + 2 : Nat) : Int) by omega), of_ (show ¬ ((0 : Nat) : Int) = 1 by omega), cond_true, cond_false, Bool.not_true, Bool.not_false, beq_self_eq_true, show (true == false) = false from rfl, e2, i1, e3, feedB, jobberlaw5_FrameRuns.law]
/-- a state of a deframer, fed -/
noncomputable def fedS (s b : List Int) (bad : Bool) : List (List Int) × List Int × Bool := bif bad then ([], s, true) else parse (s ++ b)
theorem fed_rows (s b : List Int) (bad : Bool) (h : s.length + b.length ≤ 1000000) : (fedS s b bad).1.length ≤ 1000000 ∧ ∀ x ∈ (fedS s b bad).1, x.length ≤ 1000000 := by
  cases bad with
  | true => simp [fedS]
  | false =>
    have h1 := parse_len (s ++ b)
    rw [List.length_append] at h1
    refine ⟨by simp only [fedS, cond_false]; omega, fun x hx => ?_⟩
    have := parse_bodies (s ++ b) x hx
    omega
theorem fed_small (s b : List Int) (bad : Bool) (h : s.length ≤ 257) : (fedS s b bad).2.1.length ≤ 257 := by
  cases bad with
  | true => exact h
  | false => exact parse_small _
theorem jobberlaw5_FrameTells.law0 (l : List (List Int)) (b : List Int) : jobberlaw5_FrameTells ((l, b, ()), ()) = some ((true, ()), ()) := by
  have key := loop_ind (b := jobberlaw5_FrameTells_l5) (fun d => ∃ (i : Nat) (s : List Int) (c : Bool), d = ((l, b, (), (), (i : Int), ()), ((s, c, ()), (s, c, ()), ())) ∧ i ≤ 12 ∧ s.length ≤ 257) (fun r => ∃ X, r = .inr ((b, ()), X)) (fun d => 12 - d.1.2.2.2.2.1.toNat) (by
    rintro d ⟨i, s, c, rfl, hi, hs⟩
    by_cases h1 : i < l.length
    · by_cases h2 : i < 12
      · right
        have el := List.getElem?_eq_getElem h1
        generalize l[i] = x at el
        obtain ⟨i1, i2, i3⟩ := imin_take x 400 400 rfl
        have e1 : wr .i64 ((i : Int) + 1) = ((i + 1 : Nat) : Int) := by rw [wr64 (by omega) (by omega)]; omega
        have hp : (x.take 400).length ≤ 400 := by rw [List.length_take]; omega
        have hr := roomy_ok (x.take 400) 7 (by omega)
        have hi7 := intact_ok (x.take 400) 7 (by omega)
        have e2 : odec (0 ≤ (0 : Int) ∧ (0 : Int) ≤ (imin (x.length : Int) 400) ∧ (imin (x.length : Int) 400) ≤ (x.length : Int)) = true := ot ⟨by omega, i2, i3⟩
        have e3 : odec (0 ≤ (0 : Int) ∧ (0 : Int) ≤ ((x.take 400).length : Int) ∧ ((x.take 400).length : Int) ≤ ((x.take 400 ++ List.replicate 80 (7 : Int)).length : Int)) = true := ot (by rw [List.length_append]; omega)
        have e4 : (x.take 400 ++ List.replicate 80 (7 : Int)).take (x.take 400).length = x.take 400 := by rw [List.take_append_of_le_length (Nat.le_refl _), List.take_length]
        have hrows := rows_ok (fedS s (x.take 400) c).1 (fed_rows s _ c (by omega)).1 (fed_rows s _ c (by omega)).2
        refine ⟨((l, b, (), (), ((i + 1 : Nat) : Int), ()), (((fedS s (x.take 400) c).2.1, (fedS s (x.take 400) c).2.2, ()), ((fedS s (x.take 400) c).2.1, (fedS s (x.take 400) c).2.2, ()), ())), ?_, ⟨i + 1, _, _, rfl, by omega, fed_small _ _ _ hs⟩, by simp only; omega⟩
        simp only [jobberlaw5_FrameTells_l5, ot (show (i : Int) < (l.length : Int) by omega), ot (show (i : Int) < 12 by omega), ot (show (0 : Int) ≤ (i : Int) by omega), cond_true, Int.toNat_natCast, el, Option.bind_some, e2, i1, hr, e3, e4]
        cases c with
        | true =>
          simp only [fedS, cond_true] at hrows ⊢
          simp only [feedB, refFeedB, Option.bind_some, hrows, Bool.not_true, cond_false, bad5, left5, boolEq_eq, beq_self_eq_true, odT, hi7, e1]
        | false =>
          simp only [fedS, cond_false] at hrows ⊢
          have f1 := feed5 s (x.take 400) (by omega)
          have f2 := refFeed5 s (x.take 400) (by omega)
          cases hb : (parse (s ++ x.take 400)).2.2 with
          | true =>
            have hnil := (parse_bad [] _ hb).2
            rw [hb] at f1 f2
            rw [hnil] at f1
            simp only [cond_true] at f2
            simp only [f1, f2, Option.bind_some, hrows, Bool.not_true, cond_false, bad5, left5, boolEq_eq, beq_self_eq_true, odT, hi7, e1, hnil]
          | false =>
            rw [hb] at f1 f2
            simp only [cond_false] at f2
            simp only [f1, f2, Option.bind_some, hrows, Bool.not_true, cond_false, bad5, left5, boolEq_eq, beq_self_eq_true, odT, hi7, e1]
      · left
        exact ⟨_, by simp only [jobberlaw5_FrameTells_l5, ot (show (i : Int) < (l.length : Int) by omega), of_ (show ¬ (i : Int) < 12 by omega), cond_true, cond_false]; rfl, _, rfl⟩
    · left
      exact ⟨_, by simp only [jobberlaw5_FrameTells_l5, of_ (show ¬ (i : Int) < (l.length : Int) by omega), cond_false]; rfl, _, rfl⟩)
  obtain ⟨r, hr, X, rfl⟩ := key ((l, b, (), (), 0, ()), (([], false, ()), ([], false, ()), ())) ⟨0, [], false, rfl, by omega, by simp⟩
  obtain ⟨i1, i2, i3⟩ := imin_take b 300 300 rfl
  have e2 : odec (0 ≤ (0 : Int) ∧ (0 : Int) ≤ (imin (b.length : Int) 300) ∧ (imin (b.length : Int) 300) ≤ (b.length : Int)) = true := ot ⟨by omega, i2, i3⟩
  obtain ⟨q, q1, q2, q3⟩ := refPut5 (b.take 300)
  have hs := same_ok q q (by omega)
  simp only [jobberlaw5_FrameTells, frame_New, Option.bind_some, hr, e2, cond_true, i1, q1, q2, hs, odT, jobberlaw5_FrameRuns.law]
theorem parse_whole {p : List Int} (h0 : 1 ≤ p.length) (h1 : p.length ≤ 256) : parse (fr p) = ([p], [], false) := by
  have := parse_fr h0 h1 []
  rw [List.append_nil, parse_0] at this
  exact this
theorem byte_in (l : List (List Int)) (i : Int) (p : List Int) (h0 : 1 ≤ p.length) (h1 : p.length ≤ 256) : loopFix jobberlaw5_FrameByte_l10 ((l, (), i, p, fr p, ((fr p).length : Int), 0, ()), (([], false, ()), ())) = some (.inr ((l, (), i, ()), (([], false, ()), ()))) := by
  have hl := fr_len p
  have key := loop_ind (b := jobberlaw5_FrameByte_l10) (fun d => ∃ (k : Nat), d = ((l, (), i, p, fr p, ((fr p).length : Int), (k : Int), ()), ((if k < (fr p).length then (fr p).take k else [], false, ()), ())) ∧ k ≤ (fr p).length) (fun r => r = .inr ((l, (), i, ()), (([], false, ()), ()))) (fun d => (fr p).length - d.1.2.2.2.2.2.2.1.toNat) (by
    rintro d ⟨k, rfl, hk⟩
    by_cases h : k < (fr p).length
    · right
      have e1 : wr .i64 ((k : Int) + 1) = ((k + 1 : Nat) : Int) := by rw [wr64 (by omega) (by omega)]; omega
      have e2 : wr .i64 (((fr p).length : Int) - 1) = ((fr p).length : Int) - 1 := wr64 (by omega) (by omega)
      have e3 : odec (0 ≤ (k : Int) ∧ (k : Int) ≤ ((k + 1 : Nat) : Int) ∧ ((k + 1 : Nat) : Int) ≤ ((fr p).length : Int)) = true := ot (by omega)
      have e4 : (fr p).take k ++ ((fr p).take (k + 1)).drop k = (fr p).take (k + 1) := by
        have := List.take_append_drop k ((fr p).take (k + 1))
        rw [List.take_take, Nat.min_eq_left (by omega)] at this
        exact this
      have f1 := feed5 ((fr p).take k) (((fr p).take (k + 1)).drop k) (by simp only [List.length_take, List.length_drop]; omega)
      rw [e4] at f1
      refine ⟨((l, (), i, p, fr p, ((fr p).length : Int), ((k + 1 : Nat) : Int), ()), ((if k + 1 < (fr p).length then (fr p).take (k + 1) else [], false, ()), ())), ?_, ⟨k + 1, rfl, by omega⟩, by simp only; omega⟩
      rw [if_pos h]
      by_cases h2 : k + 1 < (fr p).length
      · rw [parse_part h0 h1 h2] at f1
        have e5 : (((fr p).take (k + 1)).length : Int) = ((k + 1 : Nat) : Int) := by rw [List.length_take, Nat.min_eq_left (by omega)]
        rw [if_pos h2]
        simp only [jobberlaw5_FrameByte_l10, ot (show (k : Int) < ((fr p).length : Int) by omega), cond_true, e1, e2, e3, Int.toNat_natCast, f1, Option.bind_some, ot (show (k : Int) < ((fr p).length : Int) - 1 by omega), ot (show (([] : List (List Int)).length : Int) = 0 from rfl), Bool.not_true, cond_false, left5, e5, odT, of_ (show ¬ (k : Int) = ((fr p).length : Int) - 1 by omega)]
      · have hk1 : k + 1 = (fr p).length := by omega
        rw [hk1, List.take_length, parse_whole h0 h1] at f1
        have hr := rows_ok [p] (by simp) (by intro x hx; simp only [List.mem_singleton] at hx; rw [hx]; omega)
        rw [if_neg h2]
        simp only [jobberlaw5_FrameByte_l10, ot (show (k : Int) < ((fr p).length : Int) by omega), cond_true, e1, e2, e3, Int.toNat_natCast]
        rw [hk1, List.take_length, f1]
        simp only [Option.bind_some, of_ (show ¬ (k : Int) < ((fr p).length : Int) - 1 by omega), cond_false, ot (show (k : Int) = ((fr p).length : Int) - 1 by omega), cond_true, hr, Bool.not_true, left5, ot (show (([] : List Int).length : Int) = 0 from rfl)]
    · left
      refine ⟨_, ?_, rfl⟩
      rw [if_neg h]
      simp only [jobberlaw5_FrameByte_l10, of_ (show ¬ (k : Int) < ((fr p).length : Int) by omega), cond_false])
  obtain ⟨r, hr, rfl⟩ := key ((l, (), i, p, fr p, ((fr p).length : Int), 0, ()), (([], false, ()), ())) ⟨0, by rw [if_pos (by omega)]; rfl, by omega⟩
  exact hr
theorem body5 (i : Nat) (x : List Int) (m : Nat) (hm : m ≤ 60) : 1 ≤ ([wr .u8 (i : Int)] ++ x.take m).length ∧ ([wr .u8 (i : Int)] ++ x.take m).length ≤ m + 1 := by
  simp only [List.length_append, List.length_cons, List.length_nil, List.length_take]; omega
theorem jobberlaw5_FrameByte.law0 (l : List (List Int)) : jobberlaw5_FrameByte ((l, ()), ()) = some ((true, ()), ()) := by
  have key := loop_ind (b := jobberlaw5_FrameByte_l5) (fun d => ∃ (i : Nat), d = ((l, (), (i : Int), ()), (([], false, ()), ())) ∧ i ≤ 4) (fun r => r = .inr (((), ()), (([], false, ()), ()))) (fun d => 4 - d.1.2.2.1.toNat) (by
    rintro d ⟨i, rfl, hi⟩
    by_cases h1 : i < l.length
    · by_cases h2 : i < 4
      · right
        have el := List.getElem?_eq_getElem h1
        generalize l[i] = x at el
        obtain ⟨i1, i2, i3⟩ := imin_take x 40 40 rfl
        have e1 : wr .i64 ((i : Int) + 1) = ((i + 1 : Nat) : Int) := by rw [wr64 (by omega) (by omega)]; omega
        have e2 : odec (0 ≤ (0 : Int) ∧ (0 : Int) ≤ (imin (x.length : Int) 40) ∧ (imin (x.length : Int) 40) ≤ (x.length : Int)) = true := ot ⟨by omega, i2, i3⟩
        obtain ⟨b0, b1⟩ := body5 i x 40 (by omega)
        have e3 : odec (((([(wr .u8 (i : Int))] : List Int).length + (x.take 40).length : Nat) : Int) * ((1 : Nat) : Int) ≤ (room : Nat)) = true := inRoom (by rw [List.length_append] at b1; omega)
        have hp := put5 _ b0 (by omega)
        have hb := byte_in l (i : Int) _ b0 (by omega)
        refine ⟨((l, (), ((i + 1 : Nat) : Int), ()), (([], false, ()), ())), ?_, ⟨i + 1, rfl, by omega⟩, by simp only; omega⟩
        simp only [jobberlaw5_FrameByte_l5, ot (show (i : Int) < (l.length : Int) by omega), ot (show (i : Int) < 4 by omega), ot (show (0 : Int) ≤ (i : Int) by omega), cond_true, Int.toNat_natCast, el, Option.bind_some, e2, i1, e3, hp, hb, e1]
      · left
        exact ⟨_, by simp only [jobberlaw5_FrameByte_l5, ot (show (i : Int) < (l.length : Int) by omega), of_ (show ¬ (i : Int) < 4 by omega), cond_true, cond_false], rfl⟩
    · left
      exact ⟨_, by simp only [jobberlaw5_FrameByte_l5, of_ (show ¬ (i : Int) < (l.length : Int) by omega), cond_false], rfl⟩)
  obtain ⟨r, hr, rfl⟩ := key ((l, (), 0, ()), (([], false, ()), ())) ⟨0, rfl, by omega⟩
  simp only [jobberlaw5_FrameByte, frame_New, Option.bind_some, hr, bad5, Bool.not_false, cond_true, jobberlaw5_FrameRuns.law]
theorem parse_frames : ∀ (W : List (List Int)), (∀ p ∈ W, 1 ≤ p.length ∧ p.length ≤ 61) → parse (W.map fr).flatten = (W, [], false)
  | [], _ => parse_0
  | p :: W, h => by
    have hp := h p (List.mem_cons_self ..)
    rw [List.map_cons, List.flatten_cons, parse_fr hp.1 (by omega), parse_frames W fun q hq => h q (List.mem_cons_of_mem _ hq)]
theorem frames_len : ∀ (W : List (List Int)), (∀ p ∈ W, 1 ≤ p.length ∧ p.length ≤ 61) → (W.map fr).flatten.length ≤ 63 * W.length
  | [], _ => by simp
  | p :: W, h => by
    have hp := h p (List.mem_cons_self ..)
    have := frames_len W fun q hq => h q (List.mem_cons_of_mem _ hq)
    rw [List.map_cons, List.flatten_cons, List.length_append, fr_len, List.length_cons]
    omega
theorem cut_step {s u : List Int} {w : List (List Int)} (n : Nat) (h : parse (s ++ u) = (w, [], false)) : ∃ w1 w2 s', parse (s ++ u.take n) = (w1, s', false) ∧ w = w1 ++ w2 ∧ parse (s' ++ u.drop n) = (w2, [], false) ∧ parse s' = ([], s', false) := by
  have e : s ++ u = (s ++ u.take n) ++ u.drop n := by rw [List.append_assoc, List.take_append_drop]
  have hb : (parse (s ++ u.take n)).2.2 = false := by
    cases hb : (parse (s ++ u.take n)).2.2 with
    | false => rfl
    | true =>
      have := (parse_bad (u.drop n) _ hb).1
      rw [← e, h] at this
      rw [← this] at hb; cases hb
  have h1 := parse_app (u.drop n) _ hb
  rw [← e, h] at h1
  have h2 := parse_left _ hb
  refine ⟨(parse (s ++ u.take n)).1, (parse ((parse (s ++ u.take n)).2.1 ++ u.drop n)).1, (parse (s ++ u.take n)).2.1, ?_, (Prod.mk.inj h1).1, ?_, h2⟩
  · rw [← hb]
  · rw [(Prod.mk.inj h1).2]
theorem cuts_loop (cuts : List Int) (hc : ∀ x ∈ cuts, Rng (.int .i64) x) (W : List (List Int)) (hW : W.length ≤ 8) (all : List Int) (hall : all.length ≤ 1000) (hp : parse all = (W, [], false)) : ∃ X, loopFix jobberlaw5_FrameCuts_l13 ((cuts, (), all, W, (), 0, ()), (([], false, ()), [], ())) = some ((X, W, W, ()), (([], false, ()), ())) := by
  have key := loop_ind (b := jobberlaw5_FrameCuts_l13) (fun d => ∃ (i : Nat) (u s : List Int) (got w : List (List Int)), d = ((cuts, (), u, W, (), (i : Int), ()), ((s, false, ()), got, ())) ∧ W = got ++ w ∧ parse (s ++ u) = (w, [], false) ∧ parse s = ([], s, false) ∧ u.length ≤ 1000 ∧ i + u.length ≤ 1000) (fun r => ∃ X, r = ((X, W, W, ()), (([], false, ()), ()))) (fun d => d.1.2.2.1.length) (by
    rintro d ⟨i, u, s, got, w, rfl, h1, h2, h3, h4, h5⟩
    have hs : s.length ≤ 257 := by have := parse_small s; rw [h3] at this; exact this
    by_cases hu : u.length = 0
    · left
      have hu := List.eq_nil_of_length_eq_zero hu
      subst hu
      rw [List.append_nil, h3] at h2
      obtain ⟨e1, e2⟩ := Prod.mk.inj h2
      have e2 := (Prod.mk.inj e2).1
      subst e1; subst e2
      rw [List.append_nil] at h1
      subst h1
      exact ⟨_, by simp only [jobberlaw5_FrameCuts_l13, of_ (show ¬ (([] : List Int).length : Int) > 0 by simp), cond_false]; rfl, _, rfl⟩
    · right
      have e1 : wr .i64 ((i : Int) + 1) = ((i + 1 : Nat) : Int) := by rw [wr64 (by omega) (by omega)]; omega
      have step : ∀ n : Nat, 1 ≤ n → n ≤ u.length → ∃ (s' : List Int) (w1 w2 : List (List Int)), frame_Deframer_Feed (((), u.take n, ()), ((s, false, ()), ())) = some (.inr ((w1, ()), ((s', false, ()), ()))) ∧ odec (((got.length + w1.length : Nat) : Int) * ((24 : Nat) : Int) ≤ (room : Nat)) = true ∧ W = (got ++ w1) ++ w2 ∧ parse (s' ++ u.drop n) = (w2, [], false) ∧ parse s' = ([], s', false) := by
        intro n hn0 hn1
        obtain ⟨w1, w2, s', q1, q2, q3, q4⟩ := cut_step n h2
        have hf := feed5 s (u.take n) (by rw [List.length_take]; omega)
        rw [q1] at hf
        have hle : got.length + w1.length ≤ 8 := by rw [h1, q2] at hW; simp only [List.length_append] at hW; omega
        exact ⟨s', w1, w2, hf, ot (by rw [roomI]; omega), by rw [h1, q2, List.append_assoc], q3, q4⟩
      by_cases hi : i < cuts.length
      · have ec := List.getElem?_eq_getElem hi
        have hx := hc _ (List.getElem_mem hi)
        generalize cuts[i] = x at ec hx
        obtain ⟨_, m2, m3⟩ := imin_take u 20 20 rfl
        have m4 : 1 ≤ imin (u.length : Int) 20 ∧ imin (u.length : Int) 20 ≤ 20 := by
          rw [imin]
          by_cases h : (20 : Int) < (u.length : Int)
          · rw [ot h]; simp only [cond_true]; omega
          · rw [of_ h]; simp only [cond_false]; omega
        obtain ⟨r, r0, r1, rw_⟩ := within5 (v := x) (lo := 1) (hi := imin (u.length : Int) 20) (rng64 hx) (by omega) (by omega) (by omega) (by omega)
        obtain ⟨n, rfl⟩ : ∃ n : Nat, r = (n : Int) := ⟨r.toNat, by omega⟩
        obtain ⟨s', w1, w2, g1, g2, g3, g4, g5⟩ := step n (by omega) (by omega)
        have e2 : odec (0 ≤ (0 : Int) ∧ (0 : Int) ≤ (n : Int) ∧ (n : Int) ≤ (u.length : Int)) = true := ot (by omega)
        have e3 : odec (0 ≤ (n : Int) ∧ (n : Int) ≤ (u.length : Int) ∧ (u.length : Int) ≤ (u.length : Int)) = true := ot (by omega)
        refine ⟨((cuts, (), u.drop n, W, (), ((i + 1 : Nat) : Int), ()), ((s', false, ()), got ++ w1, ())), ?_, ⟨i + 1, _, _, _, w2, rfl, g3, g4, g5, by rw [List.length_drop]; omega, by rw [List.length_drop]; omega⟩, by simp only [List.length_drop]; omega⟩
        simp only [jobberlaw5_FrameCuts_l13, ot (show (u.length : Int) > 0 by omega), cond_true, ot (show (i : Int) < (cuts.length : Int) by omega), ot (show (0 : Int) ≤ (i : Int) by omega), Int.toNat_natCast, ec, Option.bind_some, rw_, e2, g1, g2, e3, e1]
      · obtain ⟨s', w1, w2, g1, g2, g3, g4, g5⟩ := step u.length (by omega) (Nat.le_refl _)
        have e2 : odec (0 ≤ (0 : Int) ∧ (0 : Int) ≤ (u.length : Int) ∧ (u.length : Int) ≤ (u.length : Int)) = true := ot (by omega)
        have e3 : odec (0 ≤ (u.length : Int) ∧ (u.length : Int) ≤ (u.length : Int) ∧ (u.length : Int) ≤ (u.length : Int)) = true := ot (by omega)
        refine ⟨((cuts, (), u.drop u.length, W, (), ((i + 1 : Nat) : Int), ()), ((s', false, ()), got ++ w1, ())), ?_, ⟨i + 1, _, _, _, w2, rfl, g3, g4, g5, by rw [List.length_drop]; omega, by rw [List.length_drop]; omega⟩, by simp only [List.length_drop]; omega⟩
        simp only [jobberlaw5_FrameCuts_l13, ot (show (u.length : Int) > 0 by omega), cond_true, of_ (show ¬ (i : Int) < (cuts.length : Int) by omega), cond_false, Int.toNat_natCast, e2, g1, Option.bind_some, g2, e3, e1])
  obtain ⟨r, hr, X, rfl⟩ := key ((cuts, (), all, W, (), 0, ()), (([], false, ()), [], ())) ⟨0, all, [], [], W, rfl, rfl, by rw [List.nil_append]; exact hp, parse_0, hall, by omega⟩
  exact ⟨X, hr⟩
theorem jobberlaw5_FrameCuts.law0 (l : List (List Int)) (cuts : List Int) (hc : ∀ x ∈ cuts, Rng (.int .i64) x) : jobberlaw5_FrameCuts ((l, cuts, ()), ()) = some ((true, ()), ()) := by
  have key := loop_ind (b := jobberlaw5_FrameCuts_l7) (fun d => ∃ (i : Nat) (W : List (List Int)), d = ((l, cuts, (), (), (), (), (i : Int), ()), (([], false, ()), (W.map fr).flatten, W, [], ())) ∧ i ≤ 8 ∧ W.length ≤ i ∧ ∀ p ∈ W, 1 ≤ p.length ∧ p.length ≤ 61) (fun r => ∃ W : List (List Int), r = ((cuts, (), (W.map fr).flatten, W, (), ()), (([], false, ()), [], ())) ∧ W.length ≤ 8 ∧ ∀ p ∈ W, 1 ≤ p.length ∧ p.length ≤ 61) (fun d => 8 - d.1.2.2.2.2.2.2.1.toNat) (by
    rintro d ⟨i, W, rfl, hi, hW, hp⟩
    have hlen := frames_len W hp
    by_cases h1 : i < l.length
    · by_cases h2 : i < 8
      · right
        have el := List.getElem?_eq_getElem h1
        generalize l[i] = x at el
        obtain ⟨i1, i2, i3⟩ := imin_take x 60 60 rfl
        have e1 : wr .i64 ((i : Int) + 1) = ((i + 1 : Nat) : Int) := by rw [wr64 (by omega) (by omega)]; omega
        have e2 : odec (0 ≤ (0 : Int) ∧ (0 : Int) ≤ (imin (x.length : Int) 60) ∧ (imin (x.length : Int) 60) ≤ (x.length : Int)) = true := ot ⟨by omega, i2, i3⟩
        obtain ⟨b0, b1⟩ := body5 i x 60 (by omega)
        have e3 : odec (((([(wr .u8 (i : Int))] : List Int).length + (x.take 60).length : Nat) : Int) * ((1 : Nat) : Int) ≤ (room : Nat)) = true := inRoom (by rw [List.length_append] at b1; omega)
        have e4 : odec (((W.length + ([(([(wr .u8 (i : Int))] : List Int) ++ x.take 60)] : List (List Int)).length : Nat) : Int) * ((24 : Nat) : Int) ≤ (room : Nat)) = true := ot (by rw [roomI]; simp only [List.length_cons, List.length_nil]; omega)
        have hpt := put5 _ b0 (by omega)
        have e5 : odec ((((W.map fr).flatten.length + (fr ([(wr .u8 (i : Int))] ++ x.take 60)).length : Nat) : Int) * ((1 : Nat) : Int) ≤ (room : Nat)) = true := inRoom (by rw [fr_len]; omega)
        refine ⟨((l, cuts, (), (), (), (), ((i + 1 : Nat) : Int), ()), (([], false, ()), ((W ++ [[wr .u8 (i : Int)] ++ x.take 60]).map fr).flatten, W ++ [[wr .u8 (i : Int)] ++ x.take 60], [], ())), ?_, ⟨i + 1, _, rfl, by omega, by simp only [List.length_append, List.length_cons, List.length_nil]; omega, ?_⟩, by simp only; omega⟩
        · have e6 : ((W ++ [[wr .u8 (i : Int)] ++ x.take 60]).map fr).flatten = (W.map fr).flatten ++ fr ([wr .u8 (i : Int)] ++ x.take 60) := by simp
          rw [e6]
          simp only [jobberlaw5_FrameCuts_l7, ot (show (i : Int) < (l.length : Int) by omega), ot (show (i : Int) < 8 by omega), ot (show (0 : Int) ≤ (i : Int) by omega), cond_true, Int.toNat_natCast, el, Option.bind_some, e2, i1, e3, e4, hpt, e5, e1]
        · intro p hpm
          rcases List.mem_append.1 hpm with h | h
          · exact hp p h
          · rw [List.mem_singleton] at h; subst h; omega
      · left
        exact ⟨_, by simp only [jobberlaw5_FrameCuts_l7, ot (show (i : Int) < (l.length : Int) by omega), of_ (show ¬ (i : Int) < 8 by omega), cond_true, cond_false], W, rfl, by omega, hp⟩
    · left
      exact ⟨_, by simp only [jobberlaw5_FrameCuts_l7, of_ (show ¬ (i : Int) < (l.length : Int) by omega), cond_false], W, rfl, by omega, hp⟩)
  obtain ⟨r, hr, W, rfl, w1, w2⟩ := key ((l, cuts, (), (), (), (), 0, ()), (([], false, ()), [], [], [], ())) ⟨0, [], rfl, by omega, by simp, by simp⟩
  obtain ⟨X, hx⟩ := cuts_loop cuts hc W w1 _ (by have := frames_len W w2; omega) (parse_frames W w2)
  have hrow := rows_ok W (by omega) fun p hp => by have := w2 p hp; omega
  simp only [jobberlaw5_FrameCuts, frame_New, Option.bind_some, hr, hx, hrow, cond_true, left5, ot (show (([] : List Int).length : Int) = 0 from rfl), bad5, Bool.not_false, jobberlaw5_FrameRuns.law]
theorem feedE (s b : List Int) (c : Bool) (h : s.length + b.length ≤ 1000000) : ∃ s' c', (∃ X, frame_Deframer_Feed (((), b, ()), ((s, c, ()), ())) = some (.inl (((), ()), ((s', c', ()), X, ()))) ∨ frame_Deframer_Feed (((), b, ()), ((s, c, ()), ())) = some (.inr ((X, ()), ((s', c', ()), ())))) ∧ (s.length ≤ 257 → s'.length ≤ 257) := by
  cases c with
  | true => exact ⟨s, true, ⟨[], .inl (feedB s b)⟩, id⟩
  | false => exact ⟨_, _, ⟨_, .inr (feed5 s b h)⟩, fun _ => parse_small _⟩
theorem jobberlaw5_FrameTwins.law0 (a b : List (List Int)) : jobberlaw5_FrameTwins ((a, b, ()), ()) = some ((true, ()), ()) := by
  have key := loop_ind (b := jobberlaw5_FrameTwins_l6) (fun d => ∃ (i c : Nat) (s : List Int) (o : Bool), d = ((a, b, (), (), (c : Int), (c : Int), (i : Int), ()), (([], false, ()), (s, o, ()), ())) ∧ i ≤ 8 ∧ c ≤ i ∧ s.length ≤ 257) (fun r => ∃ (c : Nat) (X : (List Int × Bool × Unit) × Unit), r = (((), (c : Int), (c : Int), ()), (([], false, ()), X))) (fun d => 8 - d.1.2.2.2.2.2.2.1.toNat) (by
    rintro d ⟨i, c, s, o, rfl, hi, hc, hs⟩
    by_cases h1 : i < 8
    · right
      have e1 : wr .i64 ((i : Int) + 1) = ((i + 1 : Nat) : Int) := by rw [wr64 (by omega) (by omega)]; omega
      have w0 : wr .i64 ((c : Int) + (([] : List (List Int)).length : Int)) = (c : Int) := by rw [List.length_nil, wr64 (by omega) (by omega)]; omega
      have w1 : ∀ q : List Int, wr .i64 ((c : Int) + (([q] : List (List Int)).length : Int)) = ((c + 1 : Nat) : Int) := fun q => by rw [List.length_cons, List.length_nil, wr64 (by omega) (by omega)]; omega
      have w2 : wr .i64 ((c : Int) + 1) = ((c + 1 : Nat) : Int) := by rw [wr64 (by omega) (by omega)]; omega
      have hy : ∃ (s' : List Int) (o' : Bool), s'.length ≤ 257 ∧ ((¬ i < b.length ∧ s' = s ∧ o' = o) ∨ ∃ y, b[i]? = some y ∧ i < b.length ∧ odec (0 ≤ (0 : Int) ∧ (0 : Int) ≤ (imin (y.length : Int) 50) ∧ (imin (y.length : Int) 50) ≤ (y.length : Int)) = true ∧ y.take (imin (y.length : Int) 50).toNat = y.take 50 ∧ ∃ X, frame_Deframer_Feed (((), y.take 50, ()), ((s, o, ()), ())) = some (.inl (((), ()), ((s', o', ()), X, ()))) ∨ frame_Deframer_Feed (((), y.take 50, ()), ((s, o, ()), ())) = some (.inr ((X, ()), ((s', o', ()), ())))) := by
        by_cases hb : i < b.length
        · obtain ⟨s', o', q1, q2⟩ := feedE s (b[i].take 50) o (by rw [List.length_take]; omega)
          obtain ⟨i1, i2, i3⟩ := imin_take b[i] 50 50 rfl
          exact ⟨s', o', q2 hs, .inr ⟨b[i], List.getElem?_eq_getElem hb, hb, ot ⟨by omega, i2, i3⟩, i1, q1⟩⟩
        · exact ⟨s, o, hs, .inl ⟨hb, rfl, rfl⟩⟩
      obtain ⟨s', o', hs', hy⟩ := hy
      have hx : ∃ c' : Nat, c' ≤ i + 1 ∧ ((c' = c ∧ (¬ i < a.length ∨ ∃ x, a[i]? = some x ∧ i < a.length ∧ ¬ (x.length : Int) > 0)) ∨ ∃ (x p : List Int), c' = c + 1 ∧ a[i]? = some x ∧ i < a.length ∧ (x.length : Int) > 0 ∧ odec (0 ≤ (0 : Int) ∧ (0 : Int) ≤ (imin (x.length : Int) 50) ∧ (imin (x.length : Int) 50) ≤ (x.length : Int)) = true ∧ x.take (imin (x.length : Int) 50).toNat = p ∧ 1 ≤ p.length ∧ p.length ≤ 50) := by
        by_cases ha : i < a.length
        · by_cases hl : (a[i].length : Int) > 0
          · obtain ⟨i1, i2, i3⟩ := imin_take a[i] 50 50 rfl
            exact ⟨c + 1, by omega, .inr ⟨a[i], a[i].take 50, rfl, List.getElem?_eq_getElem ha, ha, hl, ot ⟨by omega, i2, i3⟩, i1, by rw [List.length_take]; omega, by rw [List.length_take]; omega⟩⟩
          · exact ⟨c, by omega, .inl ⟨rfl, .inr ⟨a[i], List.getElem?_eq_getElem ha, ha, hl⟩⟩⟩
        · exact ⟨c, by omega, .inl ⟨rfl, .inl ha⟩⟩
      obtain ⟨c', hc', hx⟩ := hx
      refine ⟨((a, b, (), (), (c' : Int), (c' : Int), ((i + 1 : Nat) : Int), ()), (([], false, ()), (s', o', ()), ())), ?_, ⟨i + 1, c', s', o', rfl, by omega, hc', hs'⟩, by simp only; omega⟩
      rcases hx with ⟨rfl, hx | ⟨x, hx, ha, hx0⟩⟩ | ⟨x, p, rfl, hx, ha, hx0, hx1, hx2, p0, p1⟩
      · rcases hy with ⟨hb, rfl, rfl⟩ | ⟨y, hy, hb, y1, y2, X, hf | hf⟩
        · simp only [jobberlaw5_FrameTwins_l6, ot (show (i : Int) < 8 by omega), cond_true, of_ (show ¬ (i : Int) < (a.length : Int) by omega), cond_false, of_ (show ¬ (i : Int) < (b.length : Int) by omega), e1]
        · simp only [jobberlaw5_FrameTwins_l6, ot (show (i : Int) < 8 by omega), cond_true, of_ (show ¬ (i : Int) < (a.length : Int) by omega), cond_false, ot (show (i : Int) < (b.length : Int) by omega), ot (show (0 : Int) ≤ (i : Int) by omega), Int.toNat_natCast, hy, Option.bind_some, y1, y2, hf, e1]
        · simp only [jobberlaw5_FrameTwins_l6, ot (show (i : Int) < 8 by omega), cond_true, of_ (show ¬ (i : Int) < (a.length : Int) by omega), cond_false, ot (show (i : Int) < (b.length : Int) by omega), ot (show (0 : Int) ≤ (i : Int) by omega), Int.toNat_natCast, hy, Option.bind_some, y1, y2, hf, e1]
      · rcases hy with ⟨hb, rfl, rfl⟩ | ⟨y, hy, hb, y1, y2, X, hf | hf⟩
        · simp only [jobberlaw5_FrameTwins_l6, ot (show (i : Int) < 8 by omega), cond_true, ot (show (i : Int) < (a.length : Int) by omega), ot (show (0 : Int) ≤ (i : Int) by omega), Int.toNat_natCast, hx, Option.bind_some, of_ hx0, cond_false, of_ (show ¬ (i : Int) < (b.length : Int) by omega), e1]
        · simp only [jobberlaw5_FrameTwins_l6, ot (show (i : Int) < 8 by omega), cond_true, ot (show (i : Int) < (a.length : Int) by omega), hx, of_ hx0, cond_false, ot (show (i : Int) < (b.length : Int) by omega), ot (show (0 : Int) ≤ (i : Int) by omega), Int.toNat_natCast, hy, Option.bind_some, y1, y2, hf, e1]
        · simp only [jobberlaw5_FrameTwins_l6, ot (show (i : Int) < 8 by omega), cond_true, ot (show (i : Int) < (a.length : Int) by omega), hx, of_ hx0, cond_false, ot (show (i : Int) < (b.length : Int) by omega), ot (show (0 : Int) ≤ (i : Int) by omega), Int.toNat_natCast, hy, Option.bind_some, y1, y2, hf, e1]
      · have hpt := put5 p p0 (by omega)
        have hl := fr_len p
        obtain ⟨k, hk⟩ : ∃ k : Nat, wr .i64 (Int.tdiv ((fr p).length : Int) 2) = (k : Int) ∧ k < (fr p).length := by
          have e : Int.tdiv ((fr p).length : Int) 2 = (((fr p).length / 2 : Nat) : Int) := by
            rw [Int.tdiv_eq_ediv_of_nonneg (by omega)]; omega
          refine ⟨(fr p).length / 2, ?_, by omega⟩
          rw [e, wr64 (by omega) (by omega)]
        have k1 : odec (0 ≤ (0 : Int) ∧ (0 : Int) ≤ (k : Int) ∧ (k : Int) ≤ ((fr p).length : Int)) = true := ot (by omega)
        have k2 : odec (0 ≤ (k : Int) ∧ (k : Int) ≤ ((fr p).length : Int) ∧ ((fr p).length : Int) ≤ ((fr p).length : Int)) = true := ot (by omega)
        have f1 := feed5 [] ((fr p).take k) (by simp only [List.length_take, List.length_nil]; omega)
        have f2 := feed5 ((fr p).take k) [] (by simp only [List.length_take, List.length_nil]; omega)
        have f3 := feed5 ((fr p).take k) ((fr p).drop k) (by simp only [List.length_take, List.length_drop]; omega)
        rw [List.nil_append, parse_part p0 (by omega) hk.2] at f1
        rw [List.append_nil, parse_part p0 (by omega) hk.2] at f2
        rw [List.take_append_drop, parse_whole p0 (by omega)] at f3
        simp only at f1 f2 f3
        have o2 : odec ((2 : Int) = 0) = false := of_ (by omega)
        rcases hy with ⟨hb, rfl, rfl⟩ | ⟨y, hy, hb, y1, y2, X, hf | hf⟩
        · simp only [jobberlaw5_FrameTwins_l6, ot (show (i : Int) < 8 by omega), cond_true, ot (show (i : Int) < (a.length : Int) by omega), ot (show (0 : Int) ≤ (i : Int) by omega), Int.toNat_natCast, hx, Option.bind_some, ot hx0, hx1, hx2, hpt, o2, cond_false, hk.1, k1, k2, f1, f2, f3, w0, w1, w2, of_ (show ¬ (i : Int) < (b.length : Int) by omega), e1]
        · simp only [jobberlaw5_FrameTwins_l6, ot (show (i : Int) < 8 by omega), cond_true, ot (show (i : Int) < (a.length : Int) by omega), ot (show (0 : Int) ≤ (i : Int) by omega), Int.toNat_natCast, hx, Option.bind_some, ot hx0, hx1, hx2, hpt, o2, cond_false, hk.1, k1, k2, f1, f2, f3, w0, w1, w2, ot (show (i : Int) < (b.length : Int) by omega), hy, y1, y2, hf, e1]
        · simp only [jobberlaw5_FrameTwins_l6, ot (show (i : Int) < 8 by omega), cond_true, ot (show (i : Int) < (a.length : Int) by omega), ot (show (0 : Int) ≤ (i : Int) by omega), Int.toNat_natCast, hx, Option.bind_some, ot hx0, hx1, hx2, hpt, o2, cond_false, hk.1, k1, k2, f1, f2, f3, w0, w1, w2, ot (show (i : Int) < (b.length : Int) by omega), hy, y1, y2, hf, e1]
    · left
      exact ⟨_, by simp only [jobberlaw5_FrameTwins_l6, of_ (show ¬ (i : Int) < 8 by omega), cond_false]; rfl, c, _, rfl⟩)
  obtain ⟨r, hr, c, X, rfl⟩ := key ((a, b, (), (), 0, 0, 0, ()), (([], false, ()), ([], false, ()), ())) ⟨0, 0, [], false, rfl, by omega, by omega, by simp⟩
  obtain ⟨⟨X1, X2, _⟩, _⟩ := X
  simp only [jobberlaw5_FrameTwins, frame_New, Option.bind_some, hr, odT, cond_true, left5, ot (show (([] : List Int).length : Int) = 0 from rfl), bad5, Bool.not_false, jobberlaw5_FrameRuns.law]
theorem jobberlaw5_FrameTells.law (l : List (List Int)) (b : List Int) (h0 : Rng (.deep (.deep (.int .u8))) l) (h1 : Rng (.deep (.int .u8)) b) : jobberlaw5_FrameTells ((l, b, ()), ()) = some ((true, ()), ()) := jobberlaw5_FrameTells.law0 l b
theorem jobberlaw5_FrameCuts.law (l : List (List Int)) (c : List Int) (h0 : Rng (.deep (.deep (.int .u8))) l) (h1 : Rng (.deep (.int .i64)) c) : jobberlaw5_FrameCuts ((l, c, ()), ()) = some ((true, ()), ()) := jobberlaw5_FrameCuts.law0 l c h1.2
theorem jobberlaw5_FrameLong.law (n : Int) (b : List Int) (h0 : Rng (.int .i64) n) (h1 : Rng (.deep (.int .u8)) b) : jobberlaw5_FrameLong ((n, b, ()), ()) = some ((true, ()), ()) := jobberlaw5_FrameLong.law0 n b h0
theorem jobberlaw5_FrameTwins.law (a b : List (List Int)) (h0 : Rng (.deep (.deep (.int .u8))) a) (h1 : Rng (.deep (.deep (.int .u8))) b) : jobberlaw5_FrameTwins ((a, b, ()), ()) = some ((true, ()), ()) := jobberlaw5_FrameTwins.law0 a b
theorem jobberlaw5_FrameByte.law (l : List (List Int)) (h0 : Rng (.deep (.deep (.int .u8))) l) : jobberlaw5_FrameByte ((l, ()), ()) = some ((true, ()), ()) := jobberlaw5_FrameByte.law0 l
end AM
