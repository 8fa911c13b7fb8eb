/- The laws of chapter 23, in plain Lean. -/
import Derived.Test.YtgdkcphifknoeaaPrn
set_option linter.unusedVariables false
set_option linter.unusedSimpArgs false
namespace AM
open Go
set_option maxRecDepth 100000
abbrev Ord := Int × Int × Int × Int × Int × Int × Int × Int × Int × Unit
abbrev Fil := Ord × Ord × Int × Int × Int × Unit
abbrev Ev := Int × Int × Fil × Ord × Unit
abbrev Nt := Int × Int × Int × Int × Int × Int × Int × Int × Int × Int × (List Int) × Unit
theorem ordEta (m : Ord) : (m.1, m.2.1, m.2.2.1, m.2.2.2.1, m.2.2.2.2.1, m.2.2.2.2.2.1, m.2.2.2.2.2.2.1, m.2.2.2.2.2.2.2.1, m.2.2.2.2.2.2.2.2.1, ()) = m := by cases m; rfl
theorem evEta (e : Ev) : (e.1, e.2.1, (e.2.2.1.1, e.2.2.1.2.1, e.2.2.1.2.2.1, e.2.2.1.2.2.2.1, e.2.2.1.2.2.2.2.1, ()), e.2.2.2.1, ()) = e := by cases e; rfl
theorem ntEta (m : Nt) : (m.1, m.2.1, m.2.2.1, m.2.2.2.1, m.2.2.2.2.1, m.2.2.2.2.2.1, m.2.2.2.2.2.2.1, m.2.2.2.2.2.2.2.1, m.2.2.2.2.2.2.2.2.1, m.2.2.2.2.2.2.2.2.2.1, m.2.2.2.2.2.2.2.2.2.2.1, ()) = m := by cases m; rfl
noncomputable def ex (e : Ev) (o : Ord) : Nt := (5, 0, 0, e.2.1, o.2.1, e.2.2.1.2.2.2.2.1, 0, e.2.2.1.2.2.1, e.2.2.1.2.2.2.1, wr .i64 (o.2.2.2.2.2.2.1 - e.2.2.1.2.2.2.1), List.replicate 32 (0 : Int), ())
def gone (e : Ev) : Nt := (6, 0, 0, e.2.1, e.2.2.2.1.2.1, 0, 0, 0, 0, e.2.2.2.1.2.2.2.2.2.2.1, List.replicate 32 (0 : Int), ())
def trade (e : Ev) : Nt := (7, 0, 0, e.2.1, 0, e.2.2.1.2.2.2.2.1, 0, e.2.2.1.2.2.1, e.2.2.1.2.2.2.1, 0, List.replicate 32 (0 : Int), ())
noncomputable def priv (e : Ev) (n : Int) : List Nt := if e.1 = 1 then (if e.2.2.1.1.1 = n then [ex e e.2.2.1.1] else []) ++ (if e.2.2.1.2.1.1 = n then [ex e e.2.2.1.2.1] else []) else if e.1 = 2 then (if e.2.2.2.1.1 = n then [gone e] else []) else []
def pub (e : Ev) : List Nt := if e.1 = 1 then [trade e] else []
theorem exec23 (e : Ev) (o : Ord) : feed_exec ((e, o, ()), ()) = some ((ex e o, ()), ()) := by simp only [feed_exec, ex]
theorem room23 {n : Nat} (h : n ≤ 100) : (n : Int) * (112 : Nat) ≤ room := by rw [room_eq]; omega
theorem step5 (e : Ev) (n : Int) (L : List Ord) (W : List Nt) (i : Int) (x : Ord) (hx : L[i.toNat]? = some x) (i0 : 0 ≤ i) (i1 : i < (L.length : Int)) (hW : W.length ≤ 50) : feed_Private_l5 ((n, (), (), L, (L.length : Int), i, ()), (e, W, ())) = some (.inl ((n, (), (), L, (L.length : Int), wr .i64 (i + 1), ()), (e, W ++ (if x.1 = n then [ex e x] else []), ()))) := by
  simp only [feed_Private_l5, ot i1, ot i0, cond_true, hx, Option.bind_some, ordEta, evEta, exec23, ntEta]
  by_cases c : x.1 = n
  · have hroom : ((W.length + [ex e x].length : Nat) : Int) * (112 : Nat) ≤ room := by rw [room_eq]; simp; omega
    simp only [ot c, if_pos c, ot hroom, cond_true]
  · simp only [of_ c, if_neg c, cond_false, List.append_nil]
theorem stop5 (e : Ev) (n : Int) (L : List Ord) (W : List Nt) (i : Int) (i1 : ¬ i < (L.length : Int)) : feed_Private_l5 ((n, (), (), L, (L.length : Int), i, ()), (e, W, ())) = some (.inr ((W, ()), (e, ()))) := by
  simp only [feed_Private_l5, odec_eq, Bool.cond_decide]
  rw [if_neg i1]
theorem loop5 (e : Ev) (n : Int) : loopFix (L := ((Int × Unit × Unit × (List Ord) × Int × Int × Unit) × (Ev × (List Nt) × Unit))) feed_Private_l5 ((n, (), (), [e.2.2.1.1, e.2.2.1.2.1], 2, 0, ()), (e, [], ())) = some (((if e.2.2.1.1.1 = n then [ex e e.2.2.1.1] else []) ++ (if e.2.2.1.2.1.1 = n then [ex e e.2.2.1.2.1] else []), ()), (e, ())) := by
  have h1 : wr .i64 (0 + 1) = 1 := wr64 (by omega) (by omega)
  have h2 : wr .i64 (1 + 1) = 2 := wr64 (by omega) (by omega)
  have s1 := step5 e n [e.2.2.1.1, e.2.2.1.2.1] [] 0 e.2.2.1.1 rfl (by omega) (by simp) (by simp)
  have s2 := step5 e n [e.2.2.1.1, e.2.2.1.2.1] (if e.2.2.1.1.1 = n then [ex e e.2.2.1.1] else []) 1 e.2.2.1.2.1 rfl (by omega) (by simp) (by split <;> simp)
  have s3 := stop5 e n [e.2.2.1.1, e.2.2.1.2.1] ((if e.2.2.1.1.1 = n then [ex e e.2.2.1.1] else []) ++ (if e.2.2.1.2.1.1 = n then [ex e e.2.2.1.2.1] else [])) 2 (by simp)
  rw [h1, List.nil_append] at s1
  rw [h2] at s2
  rw [loopFix_eq]
  rw [show feed_Private_l5 ((n, (), (), [e.2.2.1.1, e.2.2.1.2.1], 2, 0, ()), (e, [], ())) = _ from s1]
  simp only
  rw [loopFix_eq, s2]
  simp only
  rw [loopFix_eq, s3]
theorem private23 (e : Ev) (n : Int) : feed_Private ((e, n, ()), ()) = some ((priv e n, ()), ()) := by
  have r1 : (1 : Int) * (112 : Nat) ≤ room := room23 (n := 1) (by omega)
  have := loop5 e n
  simp only [feed_Private, odec_eq, Bool.cond_decide, priv, ordEta, evEta]
  by_cases c : e.1 = 1
  · rw [if_pos c, if_pos c]
    show (loopFix (L := ((Int × Unit × Unit × (List Ord) × Int × Int × Unit) × (Ev × (List Nt) × Unit))) feed_Private_l5 ((n, (), (), [e.2.2.1.1, e.2.2.1.2.1], 2, 0, ()), (e, [], ()))).bind _ = _
    rw [this]; rfl
  · rw [if_neg c, if_neg c]
    by_cases c2 : e.1 = 2
    · rw [if_pos c2, if_pos c2]
      by_cases c3 : e.2.2.2.1.1 = n
      · rw [if_pos c3, if_pos c3]
        simp only [List.length_nil, List.length_cons, Nat.zero_add]
        have r1' : ((1 : Nat) : Int) * (112 : Nat) ≤ room := room23 (n := 1) (by omega)
        rw [if_pos r1', gone]
        rfl
      · rw [if_neg c3, if_neg c3]
    · rw [if_neg c2, if_neg c2]
theorem ifs_eq {β : Type} {p : Prop} [Decidable p] {a b : β} : (bif decide p then a else b) = if p then a else b := Bool.cond_decide ..
theorem refPrivate23 (e : Ev) (n : Int) : jobberref19_Private ((e, n, ()), ()) = some (((), ()), (priv e n, ())) := by
  have hr : room = 70368744177664 := room_eq
  by_cases c : e.1 = 1
  · by_cases c1 : e.2.2.1.1.1 = n <;> by_cases c2 : e.2.2.1.2.1.1 = n <;> simp [jobberref19_Private, odec_eq, priv, c, c1, c2, hr, ex]
  · by_cases c2 : e.1 = 2
    · by_cases c3 : e.2.2.2.1.1 = n <;> simp [jobberref19_Private, odec_eq, priv, c, c2, c3, hr, gone]
    · simp [jobberref19_Private, odec_eq, priv, c, c2]
theorem public23 (e : Ev) : feed_Public ((e, ()), ()) = some (((), ()), (pub e, ())) := by
  by_cases c : e.1 = 1 <;> simp [feed_Public, odec_eq, pub, c, trade]
theorem refPublic23 (e : Ev) : jobberref19_Public ((e, ()), ()) = some (((), ()), (pub e, ())) := by
  by_cases c : e.1 = 1 <;> simp [jobberref19_Public, odec_eq, pub, c, trade]
theorem teq_self : ∀ l : List Int, ((l.zip l).all fun p => teq (.int .u8) p.1 p.2) = true
  | [] => rfl
  | x :: l => by
    have := teq_self l
    simp only [List.zip_cons_cons, List.all_cons, this, Bool.and_true]
    simp [teq, intEq, odec_eq]
theorem intEq_self (a : Int) : intEq a a = true := by simp [intEq, odec_eq]
theorem same23 (l : List Nt) (hl : l.length ≤ 1000) : jobberbook_Same_api_Note ((l, l, ()), ()) = some ((true, ()), ()) := by
  have key := loop_ind (b := jobberbook_Same_api_Note_l4) (fun d => ∃ i : Int, d = ((l, l, i, ()), ()) ∧ 0 ≤ i ∧ i ≤ (l.length : Int)) (fun r => r = .inr ((), ())) (fun d => ((l.length : Int) - d.1.2.2.1).toNat) (by
    rintro d ⟨i, rfl, i0, i1⟩
    simp only [jobberbook_Same_api_Note_l4, odec_eq, Bool.cond_decide]
    by_cases hi : i < (l.length : Int)
    · rw [if_pos hi, if_pos i0]
      obtain ⟨x, ex, hx⟩ := get_int i0 hi
      have e1 : wr .i64 (i + 1) = i + 1 := wr64 (by omega) (by omega)
      simp only [ex, Option.bind_some, if_pos i0, intEq_self, teq_self, e1, Bool.and_self, Bool.not_true, cond_false]
      exact .inr ⟨_, rfl, ⟨_, rfl, by omega, by omega⟩, by simp only; omega⟩
    · rw [if_neg hi]; exact .inl ⟨_, rfl, rfl⟩)
  obtain ⟨r, hr, rfl⟩ := key ((l, l, 0, ()), ()) ⟨0, rfl, by omega, by omega⟩
  simp [jobberbook_Same_api_Note, odec_eq, hr]

theorem sum23 (a b : List Nt) (h : a.length + b.length ≤ 1000) : loopFix (L := (((List (List Nt)) × Int × (List (List Nt)) × Int × Int × Unit) × (Unit))) slices_Concat_api_Note_api_Note_l3 (([a, b], 0, [a, b], (2 : Int), 0, ()), ()) = some (([a, b], ((a.length + b.length : Nat) : Int), ()), ()) := by
  have w1 : wr .i64 (0 + 1) = 1 := wr64 (by omega) (by omega)
  have w2 : wr .i64 (1 + 1) = 2 := wr64 (by omega) (by omega)
  have w3 : wr .i64 (0 + (a.length : Int)) = (a.length : Int) := by rw [wr64 (by omega) (by omega)]; omega
  have w4 : wr .i64 ((a.length : Int) + (b.length : Int)) = ((a.length + b.length : Nat) : Int) := by rw [wr64 (by omega) (by omega)]; omega
  have g1 : ([a, b] : List (List Nt))[(0 : Int).toNat]? = some a := rfl
  have g2 : ([a, b] : List (List Nt))[(1 : Int).toNat]? = some b := rfl
  rw [loopFix_eq]
  simp only [slices_Concat_api_Note_api_Note_l3, ot (show (0 : Int) < 2 by omega), ot (show (0 : Int) ≤ 0 by omega), cond_true, g1, Option.bind_some, w1, w3, of_ (show ¬ (a.length : Int) < 0 by omega), cond_false]
  rw [loopFix_eq]
  simp only [slices_Concat_api_Note_api_Note_l3, ot (show (1 : Int) < 2 by omega), ot (show (0 : Int) ≤ 1 by omega), cond_true, g2, Option.bind_some, w2, w4, of_ (show ¬ ((a.length + b.length : Nat) : Int) < 0 by omega), cond_false]
  rw [loopFix_eq]
  simp only [slices_Concat_api_Note_api_Note_l3, of_ (show ¬ (2 : Int) < 2 by omega), cond_false]
def Z : Nt := ((0 : Int), (0 : Int), (0 : Int), (0 : Int), (0 : Int), (0 : Int), (0 : Int), (0 : Int), (0 : Int), (0 : Int), (List.replicate 32 (0 : Int)), ())
theorem grow23 (n : Nat) (h : n ≤ 1000) (h1 : 1 ≤ n) : slices_Grow_api_Note_api_Note (((), (n : Int), ()), ()) = some (.inl ((0, ()), (List.replicate n Z, ()))) := by
  have w0 : wr .i64 (0 - 0) = 0 := wr64 (by omega) (by omega)
  have w1 : wr .i64 ((n : Int) - 0) = (n : Int) := by rw [wr64 (by omega) (by omega)]; omega
  have r : 0 ≤ (n : Int) ∧ ((([] : List Nt).length : Int) + (n : Int)) * (112 : Nat) ≤ room := by rw [room_eq]; simp; omega
  have q : ([] : List Nt) ++ List.replicate (n : Int).toNat Z = List.replicate n Z := by simp
  simp only [slices_Grow_api_Note_api_Note, w0, w1, of_ (show ¬ (n : Int) < 0 by omega), ot (show (n : Int) > 0 by omega), ot (show (0 : Int) = 0 ∧ (0 : Int) = 0 from ⟨rfl, rfl⟩), ot r, cond_true, cond_false]
  have q3 : (0 : Int) ≤ 0 ∧ (0 : Int) ≤ 0 ∧ (0 : Int) ≤ ((([] : List Nt) ++ List.replicate (n : Int).toNat ((0 : Int), (0 : Int), (0 : Int), (0 : Int), (0 : Int), (0 : Int), (0 : Int), (0 : Int), (0 : Int), (0 : Int), (List.replicate 32 (0 : Int)), ())).length : Int) := ⟨Int.le_refl _, Int.le_refl _, by omega⟩
  rw [ot (show True ∧ True from ⟨trivial, trivial⟩), cond_true, ot q3, cond_true]
  show some (Sum.inl (((((0 : Int) - (0 : Int)).toNat, ()), (([] : List Nt) ++ List.replicate (n : Int).toNat Z, ())))) = _
  rw [q]; rfl
theorem grow0 : slices_Grow_api_Note_api_Note (((), (0 : Int), ()), ()) = some (.inr (((), ()), ([], ()))) := by
  have w0 : wr .i64 (0 - 0) = 0 := wr64 (by omega) (by omega)
  simp only [slices_Grow_api_Note_api_Note, w0, of_ (show ¬ (0 : Int) < 0 by omega), of_ (show ¬ (0 : Int) > 0 by omega), cond_false]
theorem put23 (a b : List Nt) (h : a.length + b.length ≤ 1000) : loopFix (L := ((Nat × (List (List Nt)) × Int × Int × Unit) × ((List Nt) × Unit))) slices_Concat_api_Note_api_Note_l11 ((0, [a, b], (2 : Int), 0, ()), (List.replicate (a.length + b.length) Z, ())) = some ((a ++ b, ()), ()) := by
  have w1 : wr .i64 (0 + 1) = 1 := wr64 (by omega) (by omega)
  have w2 : wr .i64 (1 + 1) = 2 := wr64 (by omega) (by omega)
  have g1 : ([a, b] : List (List Nt))[(0 : Int).toNat]? = some a := rfl
  have g2 : ([a, b] : List (List Nt))[(1 : Int).toNat]? = some b := rfl
  have c1 : 0 + 0 + a.length ≤ (List.replicate (a.length + b.length) Z).length := by simp
  have e1 : (List.replicate (a.length + b.length) Z).take (0 + 0) ++ a ++ (List.replicate (a.length + b.length) Z).drop ((0 + 0) + a.length) = a ++ List.replicate b.length Z := by
    simp
  have c2 : 0 + (0 + a.length) + b.length ≤ (a ++ List.replicate b.length Z).length := by simp
  have e2 : (a ++ List.replicate b.length Z).take (0 + (0 + a.length)) ++ b ++ (a ++ List.replicate b.length Z).drop ((0 + (0 + a.length)) + b.length) = a ++ b := by
    simp
  have e3 : (a ++ b).take ((0 + a.length) + b.length) = a ++ b := List.take_of_length_le (by simp)
  rw [loopFix_eq]
  simp only [slices_Concat_api_Note_api_Note_l11, ot (show (0 : Int) < 2 by omega), ot (show (0 : Int) ≤ 0 by omega), cond_true, g1, Option.bind_some, w1, ot c1, e1]
  rw [loopFix_eq]
  simp only [slices_Concat_api_Note_api_Note_l11, ot (show (1 : Int) < 2 by omega), ot (show (0 : Int) ≤ 1 by omega), cond_true, g2, Option.bind_some, w2, ot c2, e2]
  rw [loopFix_eq]
  simp only [slices_Concat_api_Note_api_Note_l11, of_ (show ¬ (2 : Int) < 2 by omega), cond_false, e3]
theorem put0 : loopFix (L := ((Unit × (List (List Nt)) × Int × Int × Unit) × ((List Nt) × Unit))) slices_Concat_api_Note_api_Note_l11b (((), [[], []], (2 : Int), 0, ()), ([], ())) = some (([], ()), ()) := by
  have w1 : wr .i64 (0 + 1) = 1 := wr64 (by omega) (by omega)
  have w2 : wr .i64 (1 + 1) = 2 := wr64 (by omega) (by omega)
  have g1 : ([[], []] : List (List Nt))[(0 : Int).toNat]? = some [] := rfl
  have g2 : ([[], []] : List (List Nt))[(1 : Int).toNat]? = some [] := rfl
  have r : ((([] : List Nt).length + ([] : List Nt).length : Nat) : Int) * (112 : Nat) ≤ room := by rw [room_eq]; simp
  rw [loopFix_eq]
  simp only [slices_Concat_api_Note_api_Note_l11b, ot (show (0 : Int) < 2 by omega), ot (show (0 : Int) ≤ 0 by omega), cond_true, g1, Option.bind_some, w1, ot r, List.append_nil]
  rw [loopFix_eq]
  simp only [slices_Concat_api_Note_api_Note_l11b, ot (show (1 : Int) < 2 by omega), ot (show (0 : Int) ≤ 1 by omega), cond_true, g2, Option.bind_some, w2, ot r, List.append_nil]
  rw [loopFix_eq]
  simp only [slices_Concat_api_Note_api_Note_l11b, of_ (show ¬ (2 : Int) < 2 by omega), cond_false]
theorem concat23 (a b : List Nt) (h : a.length + b.length ≤ 1000) : slices_Concat_api_Note_api_Note (([a, b], ()), ()) = some ((a ++ b, ()), ()) := by
  have s := sum23 a b h
  simp only [slices_Concat_api_Note_api_Note]
  rw [show (([a, b] : List (List Nt)).length : Int) = 2 from rfl, s]
  simp only [Option.bind_some]
  by_cases h0 : a.length + b.length = 0
  · have ha : a = [] := List.eq_nil_of_length_eq_zero (by omega)
    have hb : b = [] := List.eq_nil_of_length_eq_zero (by omega)
    subst ha; subst hb
    have e0 : ((([] : List Nt).length + ([] : List Nt).length : Nat) : Int) = 0 := rfl
    rw [e0, grow0]
    simp only [Option.bind_some]
    rw [show (([[], []] : List (List Nt)).length : Int) = 2 from rfl, put0]
    rfl
  · rw [grow23 _ (by omega) (by omega)]
    simp only [Option.bind_some]
    rw [show (([a, b] : List (List Nt)).length : Int) = 2 from rfl, put23 a b h]
    rfl
theorem priv_len (e : Ev) (n : Int) : (priv e n).length ≤ 2 := by
  unfold priv
  repeat' split
  all_goals simp
theorem pub_len (e : Ev) : (pub e).length ≤ 1 := by
  unfold pub
  split <;> simp
theorem told23 (e : Ev) (n : Int) : feed_Told ((e, n, ()), ()) = some ((priv e n ++ pub e, ()), ()) := by
  have h1 := priv_len e n
  have h2 := pub_len e
  simp only [feed_Told, ordEta, evEta, private23, public23, Option.bind_some, concat23 (priv e n) (pub e) (by omega)]
theorem jobberlaw23_FeedRuns.law : jobberlaw23_FeedRuns ((), ()) = some ((true, ()), ()) := by
  have w : wr .i64 (5 - 2) = 3 := wr64 (by omega) (by omega)
  have s1 := same23 [(5, 0, 0, 0, 4, 1, 0, 9, 2, 3, List.replicate 32 (0 : Int), ())] (by simp)
  have s2 := same23 [(7, 0, 0, 0, 0, 1, 0, 9, 2, 0, List.replicate 32 (0 : Int), ())] (by simp)
  have p1 : priv (1, 0, ((1, 4, 0, 0, 0, 0, 5, 0, 0, ()), (2, 6, 0, 0, 0, 0, 2, 0, 0, ()), 9, 2, 1, ()), (0, 0, 0, 0, 0, 0, 0, 0, 0, ()), ()) 1 = [(5, 0, 0, 0, 4, 1, 0, 9, 2, 3, List.replicate 32 (0 : Int), ())] := by simp [priv, ex, w, wr64 (n := 3) (by omega) (by omega)]
  have p3 : priv (1, 0, ((1, 4, 0, 0, 0, 0, 5, 0, 0, ()), (2, 6, 0, 0, 0, 0, 2, 0, 0, ()), 9, 2, 1, ()), (0, 0, 0, 0, 0, 0, 0, 0, 0, ()), ()) 3 = [] := by simp [priv]
  have q1 : pub (1, 0, ((1, 4, 0, 0, 0, 0, 5, 0, 0, ()), (2, 6, 0, 0, 0, 0, 2, 0, 0, ()), 9, 2, 1, ()), (0, 0, 0, 0, 0, 0, 0, 0, 0, ()), ()) = [(7, 0, 0, 0, 0, 1, 0, 9, 2, 0, List.replicate 32 (0 : Int), ())] := by simp [pub, trade]
  simp only [jobberlaw23_FeedRuns, private23, public23, p1, p3, q1, s1, s2, Option.bind_some, cond_true, List.length_nil, ot (show ((0 : Nat) : Int) = 0 from rfl)]
theorem stepT (e : Ev) (L : List Int) (i : Int) (x : Int) (hx : L[i.toNat]? = some x) (i0 : 0 ≤ i) (i1 : i < (L.length : Int)) : jobberlaw23_FeedTells_l2 (((), L, (L.length : Int), i, ()), (e, ())) = some (.inl (((), L, (L.length : Int), wr .i64 (i + 1), ()), (e, ()))) := by
  have h1 := priv_len e x
  have h2 := pub_len e
  have hroom : (((priv e x).length + (pub e).length : Nat) : Int) * (112 : Nat) ≤ room := by rw [room_eq]; omega
  simp only [jobberlaw23_FeedTells_l2, ot i1, ot i0, cond_true, hx, Option.bind_some, ordEta, evEta, private23, refPrivate23, told23, refPublic23, same23 (priv e x) (by omega), same23 (priv e x ++ pub e) (by simp; omega), Bool.not_true, cond_false, ot hroom]
theorem jobberlaw23_FeedTells.law (e : Ev) (n : Int) (h0 : Rng (.cons (.int .i64) (.cons (.int .i64) (.cons (.cons (.cons (.int .i64) (.cons (.int .i64) (.cons (.int .i64) (.cons (.int .i64) (.cons (.int .i64) (.cons (.int .i64) (.cons (.int .i64) (.cons (.int .i64) (.cons (.int .i64) .nil))))))))) (.cons (.cons (.int .i64) (.cons (.int .i64) (.cons (.int .i64) (.cons (.int .i64) (.cons (.int .i64) (.cons (.int .i64) (.cons (.int .i64) (.cons (.int .i64) (.cons (.int .i64) .nil))))))))) (.cons (.int .i64) (.cons (.int .i64) (.cons (.int .i64) .nil))))) (.cons (.cons (.int .i64) (.cons (.int .i64) (.cons (.int .i64) (.cons (.int .i64) (.cons (.int .i64) (.cons (.int .i64) (.cons (.int .i64) (.cons (.int .i64) (.cons (.int .i64) .nil))))))))) .nil)))) e) (h1 : Rng (.int .i64) n) : jobberlaw23_FeedTells ((e, n, ()), ()) = some ((true, ()), ()) := by
  have hl : ∀ L : List Int, L.length ≤ 100 → ∃ r, loopFix (L := ((Unit × (List Int) × Int × Int × Unit) × (Ev × Unit))) jobberlaw23_FeedTells_l2 (((), L, (L.length : Int), 0, ()), (e, ())) = some r ∧ r = .inr (((), ()), (e, ())) := by
    intro L hL
    refine loop_ind (b := jobberlaw23_FeedTells_l2) (fun d => ∃ i : Int, d = (((), L, (L.length : Int), i, ()), (e, ())) ∧ 0 ≤ i ∧ i ≤ (L.length : Int)) (fun r => r = .inr (((), ()), (e, ()))) (fun d => ((L.length : Int) - d.1.2.2.2.1).toNat) ?_ _ ⟨0, rfl, by omega, by omega⟩
    rintro d ⟨i, rfl, i0, i1⟩
    by_cases hi : i < (L.length : Int)
    · obtain ⟨x, hx, _⟩ := get_int i0 hi
      have e1 : wr .i64 (i + 1) = i + 1 := wr64 (by omega) (by omega)
      right
      refine ⟨_, stepT e L i x hx i0 hi, ⟨_, by rw [e1], by omega, by omega⟩, by simp only [e1]; omega⟩
    · left
      exact ⟨_, by simp only [jobberlaw23_FeedTells_l2, of_ hi, cond_false], rfl⟩
  obtain ⟨r, hr, rfl⟩ := hl [n, e.2.2.2.1.1, e.2.2.1.1.1, e.2.2.1.2.1.1] (by simp)
  have h2 := pub_len e
  simp only [jobberlaw23_FeedTells, ordEta, evEta]
  rw [hr]
  simp only [Option.bind_some, ordEta, evEta, public23, refPublic23, same23 (pub e) (by omega), cond_true, jobberlaw23_FeedRuns.law]

abbrev tOrd : Ty := .cons (.int .i64) (.cons (.int .i64) (.cons (.int .i64) (.cons (.int .i64) (.cons (.int .i64) (.cons (.int .i64) (.cons (.int .i64) (.cons (.int .i64) (.cons (.int .i64) .nil))))))))
abbrev tFil : Ty := .cons tOrd (.cons tOrd (.cons (.int .i64) (.cons (.int .i64) (.cons (.int .i64) .nil))))
abbrev tEv : Ty := .cons (.int .i64) (.cons (.int .i64) (.cons tFil (.cons tOrd .nil)))
theorem odec_true : odec True = true := ot trivial
theorem odec_false : odec False = false := of_ id
theorem jobberlaw23_FeedBoth.law (f : Fil) (inst n : Int) (h0 : Rng tFil f) (h1 : Rng (.int .i64) inst) (h2 : Rng (.int .i64) n) : jobberlaw23_FeedBoth ((f, inst, n, ()), ()) = some ((true, ()), ()) := by
  by_cases c : f.1.1 = f.2.1.1
  · simp only [jobberlaw23_FeedBoth, ot c, cond_true, jobberlaw23_FeedRuns.law, Option.bind_some]
  · have c' : ¬ f.2.1.1 = f.1.1 := fun h => c h.symm
    have p1 : priv (1, inst, f, (0, 0, 0, 0, 0, 0, 0, 0, 0, ()), ()) f.1.1 = [ex (1, inst, f, (0, 0, 0, 0, 0, 0, 0, 0, 0, ()), ()) f.1] := by simp [priv, c']
    have p2 : priv (1, inst, f, (0, 0, 0, 0, 0, 0, 0, 0, 0, ()), ()) f.2.1.1 = [ex (1, inst, f, (0, 0, 0, 0, 0, 0, 0, 0, 0, ()), ()) f.2.1] := by simp [priv, c]
    have p3 : f.1.1 ≠ n → f.2.1.1 ≠ n → priv (1, inst, f, (0, 0, 0, 0, 0, 0, 0, 0, 0, ()), ()) n = [] := by intro h1 h2; simp [priv, h1, h2]
    have q1 : ∀ o : Ord, pub (2, 0, ((0, 0, 0, 0, 0, 0, 0, 0, 0, ()), (0, 0, 0, 0, 0, 0, 0, 0, 0, ()), 0, 0, 0, ()), o, ()) = [] := fun o => by simp [pub]
    have q2 : ∀ (o : Ord) (m : Int), priv (3, 0, ((0, 0, 0, 0, 0, 0, 0, 0, 0, ()), (0, 0, 0, 0, 0, 0, 0, 0, 0, ()), 0, 0, 0, ()), o, ()) m = [] := fun o m => by simp [priv]
    have q3 : ∀ o : Ord, pub (3, 0, ((0, 0, 0, 0, 0, 0, 0, 0, 0, ()), (0, 0, 0, 0, 0, 0, 0, 0, 0, ()), 0, 0, 0, ()), o, ()) = [] := fun o => by simp [pub]
    have etaF : (f.1, f.2.1, f.2.2.1, f.2.2.2.1, f.2.2.2.2.1, ()) = f := by cases f; rfl
    have g : ∀ x : Nt, ([x] : List Nt)[(0 : Int).toNat]? = some x := fun x => rfl
    have z : ¬ (1 : Int) ≠ 1 := by simp
    by_cases k1 : n = f.1.1
    · simp only [jobberlaw23_FeedBoth, of_ c, cond_false, ordEta, etaF, private23, p1, p2, Option.bind_some, List.length_cons, List.length_nil, g, ex, public23, told23, q1, q2, q3, jobberlaw23_FeedRuns.law, k1, ot (show (0 : Int) ≤ 0 by omega), cond_true, Bool.not_true, Bool.not_false, Nat.zero_add, Int.natCast_one, odec_true, odec_false, eq_self, List.append_nil, Int.natCast_zero, Int.ofNat_zero, Int.ofNat_one, Int.le_refl]
    · by_cases k2 : n = f.2.1.1
      · simp only [jobberlaw23_FeedBoth, of_ c, cond_false, ordEta, etaF, private23, p1, p2, Option.bind_some, List.length_cons, List.length_nil, g, ex, public23, told23, q1, q2, q3, jobberlaw23_FeedRuns.law, of_ k1, ot k2, of_ c', ot (show (0 : Int) ≤ 0 by omega), cond_true, Bool.not_true, Bool.not_false, Nat.zero_add, Int.natCast_one, odec_true, odec_false, eq_self, List.append_nil, Int.natCast_zero, Int.ofNat_zero, Int.ofNat_one, Int.le_refl]
      · have p4 := p3 (fun h => k1 h.symm) (fun h => k2 h.symm)
        simp only [jobberlaw23_FeedBoth, of_ c, cond_false, ordEta, etaF, private23, p1, p2, p4, Option.bind_some, List.length_cons, List.length_nil, g, ex, public23, told23, q1, q2, q3, jobberlaw23_FeedRuns.law, of_ k1, of_ k2, ot (show (0 : Int) ≤ 0 by omega), cond_true, Bool.not_true, Bool.not_false, Nat.zero_add, Int.natCast_one, odec_true, odec_false, eq_self, List.append_nil, Int.natCast_zero, Int.ofNat_zero, Int.ofNat_one, Int.le_refl]
theorem jobberlaw23_FeedGone.law (o : Ord) (inst n : Int) (h0 : Rng tOrd o) (h1 : Rng (.int .i64) inst) (h2 : Rng (.int .i64) n) : jobberlaw23_FeedGone ((o, inst, n, ()), ()) = some ((true, ()), ()) := by
  have p1 : priv (2, inst, ((0, 0, 0, 0, 0, 0, 0, 0, 0, ()), (0, 0, 0, 0, 0, 0, 0, 0, 0, ()), 0, 0, 0, ()), o, ()) o.1 = [(6, 0, 0, inst, o.2.1, 0, 0, 0, 0, o.2.2.2.2.2.2.1, List.replicate 32 (0 : Int), ())] := by simp [priv, gone]
  have p2 : ∀ m, o.1 ≠ m → priv (2, inst, ((0, 0, 0, 0, 0, 0, 0, 0, 0, ()), (0, 0, 0, 0, 0, 0, 0, 0, 0, ()), 0, 0, 0, ()), o, ()) m = [] := fun m h => by simp [priv, h]
  have q1 : pub (2, inst, ((0, 0, 0, 0, 0, 0, 0, 0, 0, ()), (0, 0, 0, 0, 0, 0, 0, 0, 0, ()), 0, 0, 0, ()), o, ()) = [] := by simp [pub]
  have q2 : ∀ m : Int, priv (0, 0, ((0, 0, 0, 0, 0, 0, 0, 0, 0, ()), (0, 0, 0, 0, 0, 0, 0, 0, 0, ()), 0, 0, 0, ()), (0, 0, 0, 0, 0, 0, 0, 0, 0, ()), ()) m = [] := fun m => by simp [priv]
  have q3 : pub (0, 0, ((0, 0, 0, 0, 0, 0, 0, 0, 0, ()), (0, 0, 0, 0, 0, 0, 0, 0, 0, ()), 0, 0, 0, ()), (0, 0, 0, 0, 0, 0, 0, 0, 0, ()), ()) = [] := by simp [pub]
  have s1 := same23 [(6, 0, 0, inst, o.2.1, 0, 0, 0, 0, o.2.2.2.2.2.2.1, List.replicate 32 (0 : Int), ())] (by simp)
  by_cases k : n = o.1
  · simp only [jobberlaw23_FeedGone, ordEta, told23, public23, p1, q1, List.append_nil, Option.bind_some, s1, Bool.not_true, cond_false, List.length_nil, Int.natCast_zero, Int.ofNat_zero, eq_self, odec_true, ot k, cond_true, q2, q3, jobberlaw23_FeedRuns.law]
  · simp only [jobberlaw23_FeedGone, ordEta, told23, public23, p1, q1, List.append_nil, Option.bind_some, s1, Bool.not_true, cond_false, List.length_nil, Int.natCast_zero, Int.ofNat_zero, eq_self, odec_true, of_ k, cond_true, p2 n (fun h => k h.symm), q2, q3, jobberlaw23_FeedRuns.law]
theorem loopB (e x : Ev) (n : Int) (L : List Ord) (hL : L.length ≤ 100) : ∃ r, loopFix (L := ((Int × Unit × Unit × (List Ord) × Int × Int × Unit) × (Ev × Ev × Unit))) jobberlaw23_FeedBlind_l6 ((n, (), (), L, (L.length : Int), 0, ()), (e, x, ())) = some r ∧ ((∃ h, r = .inl ((true, ()), h)) ∨ (r = .inr ((n, (), (), ()), (e, x, ())) ∧ ∀ o ∈ L, o.1 ≠ n)) := by
  refine loop_ind (b := jobberlaw23_FeedBlind_l6) (fun d => ∃ i : Int, d = ((n, (), (), L, (L.length : Int), i, ()), (e, x, ())) ∧ 0 ≤ i ∧ i ≤ (L.length : Int) ∧ ∀ (j : Nat) (o : Ord), (j : Int) < i → L[j]? = some o → o.1 ≠ n) _ (fun d => ((L.length : Int) - d.1.2.2.2.2.2.1).toNat) ?_ _ ⟨0, rfl, by omega, by omega, fun j o hj => by omega⟩
  rintro d ⟨i, rfl, i0, i1, hall⟩
  by_cases hi : i < (L.length : Int)
  · obtain ⟨o, ho, _⟩ := get_int i0 hi
    have e1 : wr .i64 (i + 1) = i + 1 := wr64 (by omega) (by omega)
    by_cases c : o.1 = n
    · left
      refine ⟨.inl ((true, ()), (e, x, ())), ?_, .inl ⟨_, rfl⟩⟩
      simp only [jobberlaw23_FeedBlind_l6, ordEta, evEta, ot hi, ot i0, cond_true, ho, Option.bind_some, ot c, jobberlaw23_FeedRuns.law]
    · right
      refine ⟨((n, (), (), L, (L.length : Int), i + 1, ()), (e, x, ())), ?_, ⟨_, rfl, by omega, by omega, fun j q hj hq => ?_⟩, by simp only; omega⟩
      · simp only [jobberlaw23_FeedBlind_l6, ot hi, ot i0, cond_true, ho, Option.bind_some, of_ c, cond_false, e1, ordEta, evEta]
      · by_cases hji : (j : Int) < i
        · exact hall j q hji hq
        · have : j = i.toNat := by omega
          subst this
          rw [ho] at hq; cases hq; exact c
  · left
    refine ⟨_, by simp only [jobberlaw23_FeedBlind_l6, of_ hi, cond_false, ordEta, evEta], .inr ⟨rfl, fun o ho => ?_⟩⟩
    obtain ⟨j, hj⟩ := List.getElem?_of_mem ho
    have := (List.getElem?_eq_some_iff.1 hj).1
    exact hall j o (by omega) hj
theorem jobberlaw23_FeedBlind.law (e : Ev) (a b : Ord) (n : Int) (h0 : Rng tEv e) (h1 : Rng tOrd a) (h2 : Rng tOrd b) (h3 : Rng (.int .i64) n) : jobberlaw23_FeedBlind ((e, a, b, n, ()), ()) = some ((true, ()), ()) := by
  obtain ⟨r, hr, hc⟩ := loopB e (e.1, e.2.1, (a, b, e.2.2.1.2.2.1, e.2.2.1.2.2.2.1, e.2.2.1.2.2.2.2.1, ()), a, ()) n [e.2.2.1.1, e.2.2.1.2.1, e.2.2.2.1, a, b] (by simp)
  have hp : pub (e.1, e.2.1, (a, b, e.2.2.1.2.2.1, e.2.2.1.2.2.2.1, e.2.2.1.2.2.2.2.1, ()), a, ()) = pub e := rfl
  have h2 := pub_len e
  have hs := same23 (pub e) (by omega)
  simp only [jobberlaw23_FeedBlind, ordEta, evEta, public23, hp, Option.bind_some, hs, Bool.not_true, cond_false]
  rw [hr]
  rcases hc with ⟨h, rfl⟩ | ⟨rfl, hall⟩
  · rfl
  · have m1 : e.2.2.1.1.1 ≠ n := hall _ (by simp)
    have m2 : e.2.2.1.2.1.1 ≠ n := hall _ (by simp)
    have m3 : e.2.2.2.1.1 ≠ n := hall _ (by simp)
    have m4 : a.1 ≠ n := hall _ (by simp)
    have m5 : b.1 ≠ n := hall _ (by simp)
    have p1 : priv e n = [] := by simp [priv, m1, m2, m3]
    have p2 : priv (e.1, e.2.1, (a, b, e.2.2.1.2.2.1, e.2.2.1.2.2.2.1, e.2.2.1.2.2.2.2.1, ()), a, ()) n = [] := by simp [priv, m4, m5]
    simp only [Option.bind_some, ordEta, evEta, told23, private23, p1, p2, hp, List.nil_append, hs, cond_true, List.length_nil, Int.natCast_zero, Int.ofNat_zero, eq_self, odec_true, jobberlaw23_FeedRuns.law]
end AM
