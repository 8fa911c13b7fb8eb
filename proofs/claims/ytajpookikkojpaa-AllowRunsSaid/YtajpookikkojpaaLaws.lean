/- The laws of chapter 14, in plain Lean. -/
import Derived.Test.YtajpookikkojpaaPrn
set_option linter.unusedVariables false
set_option linter.unusedSimpArgs false
namespace AM
open Go
set_option maxRecDepth 100000
theorem within14 {v lo hi : Int} (hv : -9223372036854775808 ≤ v ∧ v ≤ 9223372036854775807) (h0 : -4611686018427387904 ≤ lo) (h1 : lo ≤ hi) (h2 : hi ≤ 4611686018427387902) (h3 : hi - lo < 4611686018427387904) :
    ∃ r, lo ≤ r ∧ r ≤ hi ∧ jobberbook_Within ((v, lo, hi, ()), ()) = some ((r, ()), ()) := within_ok hv h0 h1 h2 h3
abbrev TR := Int × Int × Int × Int × Bool × (List Int) × Unit
abbrev Ph := (List Bool) × (List Bool) × (List Int) × Unit
def Z : TR := (0, 0, 0, 0, false, List.replicate 32 (0 : Int), ())
theorem trEta (x : TR) : (x.1, x.2.1, x.2.2.1, x.2.2.2.1, x.2.2.2.2.1, x.2.2.2.2.2.1, ()) = x := by cases x; rfl
theorem phEta (x : Ph) : (x.1, x.2.1, x.2.2.1, ()) = x := by cases x; rfl
def Live (x : TR) : Prop := 0 ≤ x.1 ∧ x.1 ≤ 7 ∧ 0 ≤ x.2.1 ∧ x.2.1 ≤ 15 ∧ 1 ≤ x.2.2.1 ∧ x.2.2.1 ≤ 15 ∧ 0 ≤ x.2.2.2.1 ∧ x.2.2.2.1 ≤ 255
def OkTree (T : List TR) : Prop := T.length = 32 ∧ ∀ x ∈ T, x = Z ∨ Live x
theorem inside14 (v hi : Int) : tree_within ((v, hi, ()), ()) = some ((decide (0 ≤ v ∧ v ≤ hi), ()), ()) := by
  simp only [tree_within, odec_eq, Bool.cond_decide]
  by_cases h : v ≥ 0
  · rw [if_pos h]
    have : (0 ≤ v ∧ v ≤ hi) ↔ v ≤ hi := ⟨fun h => h.2, fun h2 => ⟨h, h2⟩⟩
    simp only [this]
  · rw [if_neg h, decide_eq_false (fun h2 => h h2.1)]
theorem right14 (x : TR) (h : Live x) : tree_Right ((x, ()), ()) = some ((true, ()), ()) := by
  obtain ⟨a, b, c, d, e, f, g, k⟩ := h
  simp only [tree_Right, inside14, Option.bind_some, decide_eq_true (show 0 ≤ x.1 ∧ x.1 ≤ 7 from ⟨a, b⟩), decide_eq_true (show 0 ≤ x.2.1 ∧ x.2.1 ≤ 15 from ⟨c, d⟩), decide_eq_true (show 0 ≤ x.2.2.1 ∧ x.2.2.1 ≤ 15 from ⟨by omega, f⟩), decide_eq_true (show 0 ≤ x.2.2.2.1 ∧ x.2.2.2.1 ≤ 255 from ⟨g, k⟩), cond_true]
theorem teqs_self : ∀ l : List Int, ((l.zip l).all fun p => teq (.int .u8) p.1 p.2) = true
  | [] => rfl
  | x :: l => by
    have := teqs_self l
    simp only [List.zip_cons_cons, List.all_cons, this, Bool.and_true]
    simp [teq, intEq, odec_eq]
theorem intEq_self (a : Int) : intEq a a = true := by simp [intEq, odec_eq]
theorem intEq_ne {a b : Int} (h : a ≠ b) : intEq a b = false := by simp [intEq, odec_eq, h]
theorem new14 (T : List TR) (h : OkTree T) : tree_New ((T, ()), ()) = some (.inr (((), (-1), ()), ((T, ()), ()))) := by
  have key := loop_ind (b := tree_New_l2) (fun d => ∃ i : Int, d = (((), T, i, ()), (T, ())) ∧ 0 ≤ i ∧ i ≤ 32) (fun r => r = .inr (((), ()), (T, ()))) (fun d => (32 - d.1.2.2.1).toNat) (by
    rintro d ⟨i, rfl, i0, i1⟩
    by_cases hi : i < 32
    · obtain ⟨x, ex, hx⟩ := get_int (xs := T) i0 (by have := h.1; omega)
      have e1 : wr .i64 (i + 1) = i + 1 := wr64 (by omega) (by omega)
      right
      refine ⟨(((), T, i + 1, ()), (T, ())), ?_, ⟨_, rfl, by omega, by omega⟩, by simp only; omega⟩
      have hb : (0 : Int) ≤ i ∧ i < (32 : Nat) := ⟨i0, by omega⟩
      rcases h.2 x hx with rfl | hl
      · simp only [tree_New_l2, ot hi, cond_true, ot hb, ex, Option.bind_some, e1, Z, intEq_self, boolEq, beq_self_eq_true, teqs_self, Bool.and_self, Bool.not_true, cond_false]
      · have hr : x.2.2.1 ≠ 0 := by have := hl.2.2.2.2.1; omega
        simp only [tree_New_l2, ot hi, cond_true, ot hb, ex, Option.bind_some, e1, trEta, intEq_ne hr, Bool.false_and, Bool.and_false, Bool.not_false, right14 x hl, Bool.not_true, cond_false, of_ hr]
    · left
      exact ⟨_, by simp only [tree_New_l2, of_ hi, cond_false], rfl⟩)
  obtain ⟨r, hr, rfl⟩ := key (((), T, 0, ()), (T, ())) ⟨0, rfl, by omega, by omega⟩
  simp only [tree_New, hr, Option.bind_some]
def refNewOk (T : List TR) : Prop := jobberref13_NewTree ((T, ()), ()) = some (.inr (((), (-1), ()), ((T, ()), ())))
theorem refRight14 (x : TR) (h : Live x) : jobberref13_RightTrader ((x, ()), ()) = some ((true, ()), ()) := by
  obtain ⟨a, b, c, d, e, f, g, k⟩ := h
  simp only [jobberref13_RightTrader, ot (show x.1 ≥ 0 from a), ot (show x.1 < 8 by omega), ot (show x.2.1 ≥ 0 from c), ot (show x.2.1 < 16 by omega), ot (show x.2.2.1 ≥ 0 by omega), ot (show x.2.2.1 < 16 by omega), ot (show x.2.2.2.1 ≥ 0 from g), ot (show x.2.2.2.1 < 256 by omega), cond_true]
theorem refNew14 (T : List TR) (h : OkTree T) : refNewOk T := by
  have key := loop_ind (b := jobberref13_NewTree_l2) (fun d => ∃ i : Int, d = (((), T, i, ()), (T, ())) ∧ 0 ≤ i ∧ i ≤ 32) (fun r => r = .inr (((), ()), (T, ()))) (fun d => (32 - d.1.2.2.1).toNat) (by
    rintro d ⟨i, rfl, i0, i1⟩
    by_cases hi : i < 32
    · obtain ⟨x, ex, hx⟩ := get_int (xs := T) i0 (by have := h.1; omega)
      have e1 : wr .i64 (i + 1) = i + 1 := wr64 (by omega) (by omega)
      right
      refine ⟨(((), T, i + 1, ()), (T, ())), ?_, ⟨_, rfl, by omega, by omega⟩, by simp only; omega⟩
      have hb : (0 : Int) ≤ i ∧ i < (32 : Nat) := ⟨i0, by omega⟩
      rcases h.2 x hx with rfl | hl
      · simp only [jobberref13_NewTree_l2, ot hi, cond_true, ot hb, ex, Option.bind_some, e1, Z, intEq_self, boolEq, beq_self_eq_true, teqs_self, Bool.and_self, Bool.not_true, cond_false]
      · have hr : x.2.2.1 ≠ 0 := by have := hl.2.2.2.2.1; omega
        simp only [jobberref13_NewTree_l2, ot hi, cond_true, ot hb, ex, Option.bind_some, e1, trEta, intEq_ne hr, Bool.false_and, Bool.and_false, Bool.not_false, refRight14 x hl, Bool.not_true, cond_false, of_ hr]
    · left
      exact ⟨_, by simp only [jobberref13_NewTree_l2, of_ hi, cond_false], rfl⟩)
  obtain ⟨r, hr, rfl⟩ := key (((), T, 0, ()), (T, ())) ⟨0, rfl, by omega, by omega⟩
  simp only [refNewOk, jobberref13_NewTree, hr, Option.bind_some]
/-- the trader of a number -/
abbrev tr (T : List TR) (n : Int) : TR := T.getD n.toNat Z
noncomputable def there (T : List TR) (n : Int) : Bool := bif odec (0 ≤ n ∧ n ≤ 31) then !odec ((tr T n).2.2.1 = 0) else false
theorem tr_get {T : List TR} (h : OkTree T) {n : Int} (h0 : 0 ≤ n) (h1 : n ≤ 31) : T[n.toNat]? = some (tr T n) := by
  have : n.toNat < T.length := by rw [h.1]; omega
  simp [tr, List.getD_eq_getElem?_getD, List.getElem?_eq_getElem this]
theorem there14 {T : List TR} (h : OkTree T) (n : Int) : tree_Tree_There (((), n, ()), ((T, ()), ())) = some ((there T n, ()), ((T, ()), ())) := by
  by_cases hn : 0 ≤ n ∧ n ≤ 31
  · simp only [tree_Tree_There, inside14, Option.bind_some, decide_eq_true hn, cond_true, ot (show 0 ≤ n ∧ n < (32 : Nat) by omega), tr_get h hn.1 hn.2, there, ot hn]
  · simp only [tree_Tree_There, inside14, Option.bind_some, decide_eq_false hn, cond_false, there, of_ hn]
theorem refThere14 {T : List TR} (h : OkTree T) (n : Int) : jobberref13_Tree_There (((), n, ()), ((T, ()), ())) = some ((there T n, ()), ((T, ()), ())) := by
  by_cases h0 : n ≥ 0
  · by_cases h1 : n < 32
    · simp only [jobberref13_Tree_There, ot h0, ot h1, cond_true, ot (show 0 ≤ n ∧ n < (32 : Nat) by omega), tr_get h h0 (by omega), Option.bind_some, there, ot (show 0 ≤ n ∧ n ≤ 31 by omega)]
    · simp only [jobberref13_Tree_There, ot h0, of_ h1, cond_true, cond_false, there, of_ (show ¬ (0 ≤ n ∧ n ≤ 31) by omega)]
  · simp only [jobberref13_Tree_There, of_ h0, cond_false, there, of_ (show ¬ (0 ≤ n ∧ n ≤ 31) by omega)]
theorem there_in {T : List TR} {n : Int} (h : there T n = true) : 0 ≤ n ∧ n ≤ 31 := by
  by_cases hn : 0 ≤ n ∧ n ≤ 31
  · exact hn
  · simp [there, of_ hn] at h
theorem there_live {T : List TR} (hT : OkTree T) {n : Int} (h : there T n = true) : Live (tr T n) := by
  obtain ⟨h0, h1⟩ := there_in h
  rcases hT.2 (tr T n) (List.mem_of_getElem? (tr_get hT h0 h1)) with e | e
  · rw [there, ot (show 0 ≤ n ∧ n ≤ 31 from ⟨h0, h1⟩), cond_true, e, ot (show Z.2.2.1 = 0 from rfl)] at h
    cases h
  · exact e
theorem trader14 {T : List TR} (h : OkTree T) (n : Int) : tree_Tree_Trader (((), n, ()), ((T, ()), ())) = some ((bif there T n then tr T n else Z, ()), ((T, ()), ())) := by
  cases ht : there T n with
  | false => simp only [tree_Tree_Trader, there14 h, Option.bind_some, ht, Bool.not_false, cond_true, cond_false, Z]
  | true =>
    obtain ⟨h0, h1⟩ := there_in ht
    simp only [tree_Tree_Trader, there14 h, Option.bind_some, ht, Bool.not_true, cond_true, cond_false, ot (show 0 ≤ n ∧ n < (32 : Nat) by omega), tr_get h h0 h1, trEta]
noncomputable def hs (x : TR) (r : Int) : Bool := !odec (band .i64 x.2.2.1 r = 0)
theorem has14 (x : TR) (r : Int) : allow_has ((x, r, ()), ()) = some ((hs x r, ()), ()) := rfl
theorem yes14 (b : Bool) : allow_yes ((b, ()), ()) = some ((bif b then 0 else 7, ()), ()) := by cases b <;> rfl
abbrev killed (p : Ph) (f : Int) : Bool := p.2.1.getD f.toNat false
abbrev halted (p : Ph) (f : Int) : Bool := p.1.getD f.toNat false
abbrev grants (p : Ph) (f : Int) : Int := p.2.2.1.getD f.toNat 0
def OkPh (p : Ph) : Prop := p.1.length = 8 ∧ p.2.1.length = 8 ∧ p.2.2.1.length = 8
theorem getD_get {β : Type} {l : List β} {d : β} {f : Int} (hl : l.length = 8) (h0 : 0 ≤ f) (h1 : f ≤ 7) : l[f.toNat]? = some (l.getD f.toNat d) := by
  have : f.toNat < l.length := by rw [hl]; omega
  simp [List.getD_eq_getElem?_getD, List.getElem?_eq_getElem this]
noncomputable def gr (p : Ph) (x y : TR) : Bool := odec (band .i64 (shr .i64 (grants p x.1) y.1) 1 = 1)
noncomputable def canc (p : Ph) (x y : TR) : Bool := hs x 8 || (hs x 4 && (odec (x.1 = y.1) || gr p x y)) || (hs x 2 && odec (x.1 = y.1) && odec (x.2.1 = y.2.1))
noncomputable def trd (p : Ph) (x : TR) (inst : Int) : Int := bif odec (inst < 0) then 1 else bif odec (inst ≥ 8) then 1 else bif !hs x 1 then 7 else bif odec (band .i64 (shr .i64 x.2.2.2.1 inst) 1 = 0) then 7 else bif halted p inst then 9 else 0
noncomputable def may (T : List TR) (p : Ph) (n act inst other : Int) : Int :=
  bif !there T n then 6 else bif (tr T n).2.2.2.2.1 then 7 else bif killed p (tr T n).1 && !odec (act = 2) && !odec (act = 4) then 7 else
  bif odec (act = 1) then trd p (tr T n) inst else bif odec (act = 4) then (bif hs (tr T n) 8 then 0 else 7) else
  bif odec (act = 2) then (bif !there T other then 6 else bif odec (other = n) || canc p (tr T n) (tr T other) then 0 else 7) else
  bif odec (act = 3) then (bif !there T other then 6 else bif !odec (other = n) && (hs (tr T n) 8 || (hs (tr T n) 4 && odec ((tr T other).1 = (tr T n).1))) then 0 else 7) else 1
theorem wru64 {n : Int} (h0 : 0 ≤ n) (h1 : n ≤ 1000) : wr .u64 n = n := by
  rw [wr_eq]
  have : IntKind.wrap .u64 n = n := by
    simp only [IntKind.wrap, IntKind.signed, IntKind.bits]
    simp
    omega
  exact this
theorem trade14 (p : Ph) (x : TR) (inst : Int) (hp : OkPh p) : allow_trade ((p, x, inst, ()), ()) = some ((trd p x inst, ()), ()) := by
  by_cases h0 : inst < 0
  · simp only [allow_trade, trd, ot h0, cond_true]
  · by_cases h1 : inst ≥ 8
    · simp only [allow_trade, trd, of_ h0, ot h1, cond_true, cond_false]
    · have w := wru64 (n := inst) (by omega) (by omega)
      simp only [allow_trade, trd, of_ h0, of_ h1, cond_false, trEta, has14, Option.bind_some, w]
      cases hs x 1 with
      | false => simp only [Bool.not_false, cond_true]
      | true =>
        simp only [Bool.not_true, cond_false]
        by_cases h2 : band .i64 (shr .i64 x.2.2.2.1 inst) 1 = 0
        · simp only [ot h2, cond_true]
        · simp only [of_ h2, cond_false, ot (show 0 ≤ inst ∧ inst < (8 : Nat) by omega), cond_true, getD_get (d := false) hp.1 (show 0 ≤ inst by omega) (by omega), Option.bind_some, halted]
          cases (p.1.getD inst.toNat false) <;> rfl
theorem cancels14 (p : Ph) (x y : TR) (hp : OkPh p) (hx : 0 ≤ x.1 ∧ x.1 ≤ 7) (hy : 0 ≤ y.1 ∧ y.1 ≤ 7) : allow_cancels ((p, x, y, ()), ()) = some ((canc p x y, ()), ()) := by
  have w := wru64 (n := y.1) hy.1 (by omega)
  have hb : (0 : Int) ≤ x.1 ∧ x.1 < (8 : Nat) := ⟨hx.1, by omega⟩
  simp only [allow_cancels, canc, ot hb, cond_true, getD_get (d := (0 : Int)) hp.2.2 hx.1 hx.2, Option.bind_some, w, of_ (show ¬ y.1 < 0 by omega), cond_false, trEta, has14, gr, grants]
  generalize hs x 8 = b8
  generalize hs x 4 = b4
  generalize hs x 2 = b2
  generalize odec (x.1 = y.1) = f
  generalize odec (x.2.1 = y.2.1) = k
  generalize odec (band .i64 (shr .i64 (p.2.2.1.getD x.1.toNat 0) y.1) 1 = 1) = g
  cases b8 <;> cases b4 <;> cases b2 <;> cases f <;> cases k <;> cases g <;> rfl
theorem may14 {T : List TR} (h : OkTree T) (p : Ph) (hp : OkPh p) (n act inst other : Int) : allow_May (((), p, n, act, inst, other, ()), ((T, ()), ())) = some ((may T p n act inst other, ()), ((T, ()), ())) := by
  have ht := there14 h
  have htr := trader14 h
  cases hn : there T n with
  | false => simp only [allow_May, ht, hn, Option.bind_some, Bool.not_false, cond_true, may]
  | true =>
    have hl := there_live h hn
    have hk := getD_get (d := false) hp.2.1 hl.1 hl.2.1
    have hb : (0 : Int) ≤ (tr T n).1 ∧ (tr T n).1 < (8 : Nat) := ⟨hl.1, by have := hl.2.1; omega⟩
    have hxy : 0 ≤ (tr T n).1 ∧ (tr T n).1 ≤ 7 := ⟨hl.1, hl.2.1⟩
    simp only [allow_May, ht, htr, hn, Option.bind_some, Bool.not_true, cond_false, cond_true, may, phEta, trEta, ot hb, hk]
    cases ho : (tr T n).2.2.2.2.1 with
    | true => simp only [cond_true]
    | false =>
      simp only [cond_false]
      have oth : there T other = true → allow_cancels ((p, tr T n, tr T other, ()), ()) = some ((canc p (tr T n) (tr T other), ()), ()) := fun h' => cancels14 p _ _ hp hxy ⟨(there_live h h').1, (there_live h h').2.1⟩
      have no2 : act = 1 ∨ act = 2 ∨ act = 3 ∨ act = 4 ∨ (act ≠ 1 ∧ act ≠ 2 ∧ act ≠ 3 ∧ act ≠ 4) := by omega
      have g := trade14 p (tr T n) inst hp
      have kk : killed p (tr T n).1 = p.2.1.getD (tr T n).1.toNat false := rfl
      rcases no2 with a | a | a | a | ⟨a1, a2, a3, a4⟩
      · have b2 : ¬ act = 2 := by omega
        have b4 : ¬ act = 4 := by omega
        simp only [g, ot a, of_ b2, of_ b4, Bool.not_false, cond_true, cond_false, Bool.and_true, Option.bind_some, kk, trEta]
        cases (p.2.1.getD (tr T n).1.toNat false) <;> rfl
      · have b1 : ¬ act = 1 := by omega
        have b4 : ¬ act = 4 := by omega
        have b3 : ¬ act = 3 := by omega
        cases hoth : there T other with
        | false =>
          simp only [ot a, of_ b1, of_ b3, of_ b4, Bool.not_true, Bool.not_false, Bool.and_false, Bool.false_and, cond_false, cond_true, Option.bind_some, kk, trEta, hoth]
          cases (p.2.1.getD (tr T n).1.toNat false) <;> rfl
        | true =>
          have oc := oth hoth
          simp only [ot a, of_ b1, of_ b3, of_ b4, Bool.not_true, Bool.not_false, Bool.and_false, Bool.false_and, cond_false, cond_true, Option.bind_some, kk, trEta, hoth, yes14, oc]
          cases (p.2.1.getD (tr T n).1.toNat false) <;> cases odec (other = n) <;> simp
      · have b1 : ¬ act = 1 := by omega
        have b4 : ¬ act = 4 := by omega
        have b2 : ¬ act = 2 := by omega
        cases hoth : there T other with
        | false =>
          simp only [ot a, of_ b1, of_ b2, of_ b4, Bool.not_true, Bool.not_false, Bool.and_false, Bool.false_and, Bool.and_true, cond_false, cond_true, Option.bind_some, kk, trEta, hoth]
          cases (p.2.1.getD (tr T n).1.toNat false) <;> rfl
        | true =>
          simp only [ot a, of_ b1, of_ b2, of_ b4, Bool.not_true, Bool.not_false, Bool.and_false, Bool.false_and, Bool.and_true, cond_false, cond_true, Option.bind_some, kk, trEta, hoth, yes14, has14]
          cases (p.2.1.getD (tr T n).1.toNat false) <;> cases odec (other = n) <;> cases hs (tr T n) 8 <;> cases hs (tr T n) 4 <;> simp
      · have b1 : ¬ act = 1 := by omega
        have b3 : ¬ act = 3 := by omega
        have b2 : ¬ act = 2 := by omega
        simp only [ot a, of_ b1, of_ b2, of_ b3, Bool.not_true, Bool.not_false, Bool.and_false, Bool.false_and, Bool.and_true, cond_false, cond_true, Option.bind_some, kk, trEta, yes14, has14]
        cases (p.2.1.getD (tr T n).1.toNat false) <;> rfl
      · simp only [of_ a1, of_ a2, of_ a3, of_ a4, Bool.not_true, Bool.not_false, Bool.and_false, Bool.false_and, Bool.and_true, cond_false, cond_true, Option.bind_some, kk, trEta, yes14, has14]
        cases (p.2.1.getD (tr T n).1.toNat false) <;> rfl
theorem allowed14 {T : List TR} (h : OkTree T) (p : Ph) (hp : OkPh p) (n act inst other : Int) : jobberref13_Allowed (((), p, n, act, inst, other, ()), ((T, ()), ())) = some ((may T p n act inst other, ()), ((T, ()), ())) := by
  have ht := refThere14 h
  cases hn : there T n with
  | false => simp only [jobberref13_Allowed, ht, hn, Option.bind_some, Bool.not_false, cond_true, may]
  | true =>
    have hl := there_live h hn
    have hk := getD_get (d := false) hp.2.1 hl.1 hl.2.1
    obtain ⟨n0, n1⟩ := there_in hn
    have hx := tr_get h n0 n1
    have hb : (0 : Int) ≤ (tr T n).1 ∧ (tr T n).1 < (8 : Nat) := ⟨hl.1, by have := hl.2.1; omega⟩
    have hxy : 0 ≤ (tr T n).1 ∧ (tr T n).1 ≤ 7 := ⟨hl.1, hl.2.1⟩
    have hg := getD_get (d := (0 : Int)) hp.2.2 hl.1 hl.2.1
    simp only [jobberref13_Allowed, ht, hn, Option.bind_some, Bool.not_true, cond_false, cond_true, may, phEta, trEta, ot (show 0 ≤ n ∧ n < (32 : Nat) by omega), hx, ot hb, hk, hg]
    cases ho : (tr T n).2.2.2.2.1 with
    | true => simp only [cond_true]
    | false =>
      simp only [cond_false]
      have no2 : act = 1 ∨ act = 2 ∨ act = 3 ∨ act = 4 ∨ (act ≠ 1 ∧ act ≠ 2 ∧ act ≠ 3 ∧ act ≠ 4) := by omega
      have kk : killed p (tr T n).1 = p.2.1.getD (tr T n).1.toNat false := rfl
      rcases no2 with a | a | a | a | ⟨a1, a2, a3, a4⟩
      · have b2 : ¬ act = 2 := by omega
        have b4 : ¬ act = 4 := by omega
        by_cases h0 : inst < 0
        · simp only [trd, ot h0, ot a, of_ b2, of_ b4, Bool.not_false, cond_true, cond_false, Bool.and_true, Option.bind_some, kk, trEta]
          cases (p.2.1.getD (tr T n).1.toNat false) <;> rfl
        · by_cases h1 : inst ≥ 8
          · simp only [trd, of_ h0, ot h1, ot a, of_ b2, of_ b4, Bool.not_false, cond_true, cond_false, Bool.and_true, Option.bind_some, kk, trEta]
            cases (p.2.1.getD (tr T n).1.toNat false) <;> rfl
          · have hh := getD_get (d := false) hp.1 (show 0 ≤ inst by omega) (by omega)
            simp only [trd, hs, of_ h0, of_ h1, ot a, of_ b2, of_ b4, Bool.not_false, cond_true, cond_false, Bool.and_true, Option.bind_some, kk, trEta, ot (show 0 ≤ inst ∧ inst < (8 : Nat) by omega), hh, Bool.not_not, halted]
            cases (p.2.1.getD (tr T n).1.toNat false) <;> cases odec (band .i64 (tr T n).2.2.1 1 = 0) <;> cases odec (band .i64 (shr .i64 (tr T n).2.2.2.1 inst) 1 = 0) <;> cases (p.1.getD inst.toNat false) <;> rfl
      · have b1 : ¬ act = 1 := by omega
        have b4 : ¬ act = 4 := by omega
        have b3 : ¬ act = 3 := by omega
        cases hoth : there T other with
        | false =>
          simp only [ot a, of_ b1, of_ b3, of_ b4, Bool.not_true, Bool.not_false, Bool.and_false, Bool.false_and, cond_false, cond_true, Option.bind_some, kk, trEta, hoth]
          cases (p.2.1.getD (tr T n).1.toNat false) <;> rfl
        | true =>
          obtain ⟨o0, o1⟩ := there_in hoth
          have hy := tr_get h o0 o1
          have hly := there_live h hoth
          simp only [ot a, of_ b1, of_ b3, of_ b4, Bool.not_true, Bool.not_false, Bool.and_false, Bool.false_and, cond_false, cond_true, Option.bind_some, kk, trEta, hoth, ot (show 0 ≤ other ∧ other < (32 : Nat) by omega), hy, of_ (show ¬ (tr T other).1 < 0 by have := hly.1; omega), canc, hs, gr, grants]
          have sym : odec ((tr T other).1 = (tr T n).1) = odec ((tr T n).1 = (tr T other).1) := by congr 1; exact propext ⟨Eq.symm, Eq.symm⟩
          have sym2 : odec ((tr T other).2.1 = (tr T n).2.1) = odec ((tr T n).2.1 = (tr T other).2.1) := by congr 1; exact propext ⟨Eq.symm, Eq.symm⟩
          rw [sym, sym2]
          generalize odec ((tr T n).1 = (tr T other).1) = f
          generalize odec ((tr T n).2.1 = (tr T other).2.1) = k
          generalize odec (band .i64 (tr T n).2.2.1 8 = 0) = c8
          generalize odec (band .i64 (tr T n).2.2.1 4 = 0) = c4
          generalize odec (band .i64 (tr T n).2.2.1 2 = 0) = c2
          generalize odec (band .i64 (shr .i64 (p.2.2.1.getD (tr T n).1.toNat 0) (tr T other).1) 1 = 1) = g
          cases (p.2.1.getD (tr T n).1.toNat false) <;> cases odec (other = n) <;> cases c8 <;> cases c4 <;> cases c2 <;> cases f <;> cases k <;> cases g <;> rfl
      · have b1 : ¬ act = 1 := by omega
        have b4 : ¬ act = 4 := by omega
        have b2 : ¬ act = 2 := by omega
        cases hoth : there T other with
        | false =>
          simp only [ot a, of_ b1, of_ b2, of_ b4, Bool.not_true, Bool.not_false, Bool.and_false, Bool.false_and, Bool.and_true, cond_false, cond_true, Option.bind_some, kk, trEta, hoth]
          cases (p.2.1.getD (tr T n).1.toNat false) <;> rfl
        | true =>
          obtain ⟨o0, o1⟩ := there_in hoth
          have hy := tr_get h o0 o1
          simp only [ot a, of_ b1, of_ b2, of_ b4, Bool.not_true, Bool.not_false, Bool.and_false, Bool.false_and, Bool.and_true, cond_false, cond_true, Option.bind_some, kk, trEta, hoth, ot (show 0 ≤ other ∧ other < (32 : Nat) by omega), hy, hs]
          generalize odec (band .i64 (tr T n).2.2.1 8 = 0) = c8
          generalize odec (band .i64 (tr T n).2.2.1 4 = 0) = c4
          generalize odec ((tr T other).1 = (tr T n).1) = f
          cases (p.2.1.getD (tr T n).1.toNat false) <;> cases odec (other = n) <;> cases c8 <;> cases c4 <;> cases f <;> rfl
      · have b1 : ¬ act = 1 := by omega
        have b3 : ¬ act = 3 := by omega
        have b2 : ¬ act = 2 := by omega
        simp only [ot a, of_ b1, of_ b2, of_ b3, Bool.not_true, Bool.not_false, Bool.and_false, Bool.false_and, Bool.and_true, cond_false, cond_true, Option.bind_some, kk, trEta, hs]
        cases (p.2.1.getD (tr T n).1.toNat false) <;> cases odec (band .i64 (tr T n).2.2.1 8 = 0) <;> rfl
      · simp only [of_ a1, of_ a2, of_ a3, of_ a4, Bool.not_true, Bool.not_false, Bool.and_false, Bool.false_and, Bool.and_true, cond_false, cond_true, Option.bind_some, kk, trEta]
        cases (p.2.1.getD (tr T n).1.toNat false) <;> rfl

abbrev tAsk : Ty := .cons (.int .i64) (.cons (.int .i64) (.cons (.int .i64) (.cons (.int .i64) (.cons (.int .i64) (.cons .bool .nil)))))
abbrev tPh : Ty := .cons (.arr 8 .bool) (.cons (.arr 8 .bool) (.cons (.arr 8 (.int .i64)) .nil))
theorem okPh {p : Ph} (h : Rng tPh p) : OkPh p := ⟨h.1.1, h.2.1.1, h.2.2.1.1⟩
theorem some14 (l : List (Int × Int × Int × Int × Int × Bool × Unit)) (hl : Rng (.deep tAsk) l) : ∃ T, OkTree T ∧ jobberlaw14_some ((l, ()), ()) = some ((T, ()), ()) := by
  have hq : ∀ x ∈ l, Rng tAsk x := hl.2
  have key := loop_ind (b := jobberlaw14_some_l3) (fun d => ∃ i A W, d = ((l, (), (), i, ()), (A, W, ())) ∧ 0 ≤ i ∧ i ≤ 40 ∧ OkTree W) (fun r => ∃ A W, r = (((), (), ()), (A, W, ())) ∧ OkTree W) (fun d => (40 - d.1.2.2.2.1).toNat) (by
    rintro d ⟨i, A, W, rfl, i0, i1, hW⟩
    by_cases hi : i < (l.length : Int)
    · by_cases h40 : i < 40
      · obtain ⟨x, ex, hx⟩ := get_int i0 hi
        obtain ⟨q1, q2, q3, q4, q5, _⟩ := hq x hx
        obtain ⟨n, n0, n1, en⟩ := within14 (rng64 q1) (lo := 0) (hi := 31) (by omega) (by omega) (by omega) (by omega)
        obtain ⟨f, f0, f1, ef⟩ := within14 (rng64 q2) (lo := 0) (hi := 3) (by omega) (by omega) (by omega) (by omega)
        obtain ⟨k, k0, k1, ek⟩ := within14 (rng64 q3) (lo := 0) (hi := 2) (by omega) (by omega) (by omega) (by omega)
        obtain ⟨r, r0, r1, er⟩ := within14 (rng64 q4) (lo := 1) (hi := 15) (by omega) (by omega) (by omega) (by omega)
        obtain ⟨s, s0, s1, es⟩ := within14 (rng64 q5) (lo := 0) (hi := 255) (by omega) (by omega) (by omega) (by omega)
        have e1 : wr .i64 (i + 1) = i + 1 := wr64 (by omega) (by omega)
        right
        refine ⟨((l, (), (), i + 1, ()), (A, W.set n.toNat (f, k, r, s, x.2.2.2.2.2.1, List.replicate 32 (0 : Int), ()), ())), ?_, ⟨_, _, _, rfl, by omega, by omega, ?_⟩, by simp only; omega⟩
        · simp only [jobberlaw14_some_l3, ot hi, ot h40, ot i0, cond_true, ex, Option.bind_some, en, ef, ek, er, es, ot (show 0 ≤ n ∧ n < (32 : Nat) by omega), tr_get hW n0 n1, e1]
        · refine ⟨by rw [List.length_set]; exact hW.1, fun y hy => ?_⟩
          rcases List.mem_or_eq_of_mem_set hy with hy | rfl
          · exact hW.2 y hy
          · exact .inr ⟨by simp only; omega, by simp only; omega, by simp only; omega, by simp only; omega, by simp only; omega, by simp only; omega, by simp only; omega, by simp only; omega⟩
      · left
        exact ⟨_, by simp only [jobberlaw14_some_l3, ot hi, of_ h40, cond_true, cond_false], A, W, rfl, hW⟩
    · left
      exact ⟨_, by simp only [jobberlaw14_some_l3, of_ hi, cond_false], A, W, rfl, hW⟩)
  obtain ⟨r, hr, A, W, rfl, hW⟩ := key ((l, (), (), 0, ()), (List.replicate 32 Z, List.replicate 32 Z, ())) ⟨0, _, _, rfl, by omega, by omega, by simp, fun x hx => .inl (List.eq_of_mem_replicate hx)⟩
  refine ⟨W, hW, ?_⟩
  rw [Z] at hr
  simp only [jobberlaw14_some, hr, Option.bind_some]
theorem okSet {T : List TR} (h : OkTree T) {n : Int} (x : TR) (hx : x = Z ∨ Live x) : OkTree (T.set n.toNat x) := by
  refine ⟨by rw [List.length_set]; exact h.1, fun y hy => ?_⟩
  rcases List.mem_or_eq_of_mem_set hy with hy | rfl
  · exact h.2 y hy
  · exact hx
theorem tr_set {T : List TR} (h : OkTree T) {n m : Int} (n0 : 0 ≤ n) (n1 : n ≤ 31) (m0 : 0 ≤ m) (m1 : m ≤ 31) (x : TR) : tr (T.set n.toNat x) m = if m = n then x else tr T m := by
  have h1 : n.toNat < T.length := by rw [h.1]; omega
  have h2 : m.toNat < T.length := by rw [h.1]; omega
  simp only [tr, List.getD_eq_getElem?_getD, List.getElem?_set]
  by_cases e : m = n
  · subst e; simp [h1]
  · rw [if_neg e, if_neg (by omega)]
theorem there_set {T : List TR} (h : OkTree T) {n m : Int} (n0 : 0 ≤ n) (n1 : n ≤ 31) (x : TR) : there (T.set n.toNat x) m = if m = n then !odec (x.2.2.1 = 0) else there T m := by
  by_cases hm : 0 ≤ m ∧ m ≤ 31
  · simp only [there, ot hm, cond_true, tr_set h n0 n1 hm.1 hm.2]
    by_cases e : m = n
    · rw [if_pos e, if_pos e]
    · rw [if_neg e, if_neg e]
  · simp only [there, of_ hm, cond_false]
    rw [if_neg (by omega)]
/-- roles, as bits -/
theorem band_nat {a r : Int} (a0 : 0 ≤ a) (a1 : a ≤ 255) (r0 : 0 ≤ r) (r1 : r ≤ 255) : band .i64 a r = ((a.toNat &&& r.toNat : Nat) : Int) := by
  have h1 : (BitVec.ofInt 64 a).toNat = a.toNat := by rw [BitVec.toNat_ofInt]; omega
  have h2 : (BitVec.ofInt 64 r).toNat = r.toNat := by rw [BitVec.toNat_ofInt]; omega
  have h3 : a.toNat &&& r.toNat ≤ a.toNat := Nat.and_le_left
  show wr .i64 ((BitVec.ofInt 64 a &&& BitVec.ofInt 64 r).toNat : Int) = _
  rw [BitVec.toNat_and, h1, h2, wr64 (by omega) (by omega)]
theorem bor_nat {a r : Int} (a0 : 0 ≤ a) (a1 : a ≤ 255) (r0 : 0 ≤ r) (r1 : r ≤ 255) : bor .i64 a r = ((a.toNat ||| r.toNat : Nat) : Int) := by
  have h1 : (BitVec.ofInt 64 a).toNat = a.toNat := by rw [BitVec.toNat_ofInt]; omega
  have h2 : (BitVec.ofInt 64 r).toNat = r.toNat := by rw [BitVec.toNat_ofInt]; omega
  have h3 : a.toNat ||| r.toNat < 2 ^ 8 := Nat.or_lt_two_pow (by omega) (by omega)
  show wr .i64 ((BitVec.ofInt 64 a ||| BitVec.ofInt 64 r).toNat : Int) = _
  rw [BitVec.toNat_or, h1, h2, wr64 (by omega) (by omega)]
theorem jobberlaw14_AllowRuns.law : jobberlaw14_AllowRuns ((), ()) = some ((true, ()), ()) := by
  have hp : OkPh ((List.replicate 8 false), (List.replicate 8 false), (List.replicate 8 (0 : Int)), ()) := ⟨rfl, rfl, rfl⟩
  have z : OkTree (List.replicate 32 Z) := ⟨by simp, fun x hx => .inl (List.eq_of_mem_replicate hx)⟩
  have two : ∀ r : Int, 1 ≤ r → r ≤ 15 → OkTree (((List.replicate 32 Z).set (0 : Int).toNat (1, 0, r, 0, false, (List.replicate 32 (0 : Int)), ())).set (1 : Int).toNat (1, 0, 1, 0, false, (List.replicate 32 (0 : Int)), ())) := fun r h1 h2 =>
    okSet (n := 1) (okSet (n := 0) z _ (.inr ⟨by simp only; omega, by simp only; omega, by simp only; omega, by simp only; omega, by simp only; omega, by simp only; omega, by simp only; omega, by simp only; omega⟩)) _ (.inr ⟨by simp only; omega, by simp only; omega, by simp only; omega, by simp only; omega, by simp only; omega, by simp only; omega, by simp only; omega, by simp only; omega⟩)
  have etwo : ∀ r : Int, 1 ≤ r → r ≤ 15 → jobberlaw14_two ((r, ()), ()) = some (.inr (((), ()), (((((List.replicate 32 Z).set (0 : Int).toNat (1, 0, r, 0, false, (List.replicate 32 (0 : Int)), ())).set (1 : Int).toNat (1, 0, 1, 0, false, (List.replicate 32 (0 : Int)), ())), ()), ()))) := by
    intro r h1 h2
    have hn := new14 _ (two r h1 h2)
    have g0 := tr_get z (n := 0) (by omega) (by omega)
    have g1 := tr_get (okSet (n := 0) z (1, 0, r, 0, false, (List.replicate 32 (0 : Int)), ()) (.inr ⟨by simp only; omega, by simp only; omega, by simp only; omega, by simp only; omega, by simp only; omega, by simp only; omega, by simp only; omega, by simp only; omega⟩)) (n := 1) (by omega) (by omega)
    simp only [Z] at hn g0 g1
    simp only [jobberlaw14_two, ot (show 0 ≤ (0 : Int) ∧ (0 : Int) < (32 : Nat) by omega), ot (show 0 ≤ (1 : Int) ∧ (1 : Int) < (32 : Nat) by omega), cond_true, g0, g1, Option.bind_some, hn, Z]
  have m1 := may14 (two 1 (by omega) (by omega)) _ hp 9 1 0 0
  have m2 := may14 (two 1 (by omega) (by omega)) _ hp 0 2 0 1
  have m3 := may14 (two 3 (by omega) (by omega)) _ hp 0 2 0 1
  have b1 : band .i64 1 8 = 0 := by rw [band_nat (by omega) (by omega) (by omega) (by omega)]; rfl
  have b2 : band .i64 1 4 = 0 := by rw [band_nat (by omega) (by omega) (by omega) (by omega)]; rfl
  have b3 : band .i64 1 2 = 0 := by rw [band_nat (by omega) (by omega) (by omega) (by omega)]; rfl
  have b4 : band .i64 3 2 = 2 := by rw [band_nat (by omega) (by omega) (by omega) (by omega)]; rfl
  have c1 : may (((List.replicate 32 Z).set (0 : Int).toNat (1, 0, 1, 0, false, (List.replicate 32 (0 : Int)), ())).set (1 : Int).toNat (1, 0, 1, 0, false, (List.replicate 32 (0 : Int)), ())) ((List.replicate 8 false), (List.replicate 8 false), (List.replicate 8 (0 : Int)), ()) 9 1 0 0 = 6 := by
    simp [may, there, tr, Z, odec_eq]
  have c2 : may (((List.replicate 32 Z).set (0 : Int).toNat (1, 0, 1, 0, false, (List.replicate 32 (0 : Int)), ())).set (1 : Int).toNat (1, 0, 1, 0, false, (List.replicate 32 (0 : Int)), ())) ((List.replicate 8 false), (List.replicate 8 false), (List.replicate 8 (0 : Int)), ()) 0 2 0 1 = 7 := by
    simp [may, there, tr, Z, odec_eq, canc, hs, b1, b2, b3]
  have c3 : may (((List.replicate 32 Z).set (0 : Int).toNat (1, 0, 3, 0, false, (List.replicate 32 (0 : Int)), ())).set (1 : Int).toNat (1, 0, 1, 0, false, (List.replicate 32 (0 : Int)), ())) ((List.replicate 8 false), (List.replicate 8 false), (List.replicate 8 (0 : Int)), ()) 0 2 0 1 = 0 := by
    simp [may, there, tr, Z, odec_eq, canc, hs, b4]
  rw [c1] at m1
  rw [c2] at m2
  rw [c3] at m3
  simp only [jobberlaw14_AllowRuns, etwo 1 (by omega) (by omega), etwo 3 (by omega) (by omega), Option.bind_some, m1, m2, m3, ot (show (6 : Int) = 6 from rfl), ot (show (7 : Int) = 7 from rfl), ot (show (0 : Int) = 0 from rfl), cond_true, odT]
theorem jobberlaw14_AllowSelf.law (l : List (Int × Int × Int × Int × Int × Bool × Unit)) (p : Ph) (n inst : Int) (h0 : Rng (.deep tAsk) l) (h1 : Rng tPh p) (h2 : Rng (.int .i64) n) (h3 : Rng (.int .i64) inst) : jobberlaw14_AllowSelf ((l, p, n, inst, ()), ()) = some ((true, ()), ()) := by
  obtain ⟨T, hT, eT⟩ := some14 l h0
  obtain ⟨k, k0, k1, ek⟩ := within14 (rng64 h2) (lo := 0) (hi := 31) (by omega) (by omega) (by omega) (by omega)
  have m1 := may14 hT p (okPh h1) k 3 inst k
  have m2 := may14 hT p (okPh h1) k 2 inst k
  have c1 : may T p k 3 inst k ≠ 0 := by
    simp only [may, odT, ot (show k = k from rfl), Bool.not_true, Bool.false_and, cond_false, of_ (show ¬ (3 : Int) = 1 by omega), of_ (show ¬ (3 : Int) = 4 by omega), of_ (show ¬ (3 : Int) = 2 by omega), ot (show (3 : Int) = 3 from rfl), cond_true, Bool.not_false, Bool.and_true]
    cases there T k <;> cases (tr T k).2.2.2.2.1 <;> cases killed p (tr T k).1 <;> simp
  simp only [jobberlaw14_AllowSelf, eT, Option.bind_some, new14 T hT, ek, phEta, m1, of_ c1, cond_false, m2, there14 hT]
  cases ht : there T k with
  | false =>
    have c2 : may T p k 2 inst k = 6 := by simp only [may, ht, Bool.not_false, cond_true]
    simp only [Bool.not_false, cond_true, ot c2, jobberlaw14_AllowRuns.law, Option.bind_some]
  | true =>
    simp only [Bool.not_true, cond_false, ot (show 0 ≤ k ∧ k < (32 : Nat) by omega), cond_true, tr_get hT k0 k1, Option.bind_some]
    cases ho : (tr T k).2.2.2.2.1 with
    | true =>
      have c2 : may T p k 2 inst k = 7 := by simp only [may, ht, ho, Bool.not_true, cond_false, cond_true]
      simp only [cond_true, ot c2, jobberlaw14_AllowRuns.law, Option.bind_some]
    | false =>
      have c2 : may T p k 2 inst k = 0 := by
        simp only [may, ht, ho, odT, Bool.not_true, cond_false, cond_true, ot (show (2 : Int) = 2 from rfl), Bool.and_false, Bool.false_and, of_ (show ¬ (2 : Int) = 1 by omega), of_ (show ¬ (2 : Int) = 4 by omega), ot (show k = k from rfl), Bool.true_or]
      simp only [cond_false, ot c2, cond_true, jobberlaw14_AllowRuns.law, Option.bind_some]
theorem jobberlaw14_AllowTells.law (l : List (Int × Int × Int × Int × Int × Bool × Unit)) (p : Ph) (n act inst other : Int) (h0 : Rng (.deep tAsk) l) (h1 : Rng tPh p) (h2 : Rng (.int .i64) n) (h3 : Rng (.int .i64) act) (h4 : Rng (.int .i64) inst) (h5 : Rng (.int .i64) other) : jobberlaw14_AllowTells ((l, p, n, act, inst, other, ()), ()) = some ((true, ()), ()) := by
  obtain ⟨T, hT, eT⟩ := some14 l h0
  have hp := okPh h1
  have rn : jobberref13_NewTree ((T, ()), ()) = some (.inr (((), (-1), ()), ((T, ()), ()))) := refNew14 T hT
  have key := loop_ind (b := jobberlaw14_AllowTells_l7) (fun d => ∃ i : Int, d = ((n, act, inst, other, (), (), (), i, ()), (p, (T, ()), (T, ()), ())) ∧ 0 ≤ i ∧ i ≤ 8) (fun r => r = .inr ((n, act, inst, other, (), (), (), ()), (p, (T, ()), (T, ()), ()))) (fun d => (8 - d.1.2.2.2.2.2.2.2.1).toNat) (by
    rintro d ⟨i, rfl, i0, i1⟩
    by_cases hi : i < 8
    · have e1 : wr .i64 (i + 1) = i + 1 := wr64 (by omega) (by omega)
      right
      refine ⟨((n, act, inst, other, (), (), (), i + 1, ()), (p, (T, ()), (T, ()), ())), ?_, ⟨_, rfl, by omega, by omega⟩, by simp only; omega⟩
      simp only [jobberlaw14_AllowTells_l7, ot hi, cond_true, phEta, may14 hT p hp, allowed14 hT p hp, Option.bind_some, odT, Bool.not_true, cond_false, e1]
    · left
      exact ⟨_, by simp only [jobberlaw14_AllowTells_l7, of_ hi, cond_false, phEta], rfl⟩)
  obtain ⟨r, hr, rfl⟩ := key ((n, act, inst, other, (), (), (), 0, ()), (p, (T, ()), (T, ()), ())) ⟨0, rfl, by omega, by omega⟩
  simp only [jobberlaw14_AllowTells, eT, Option.bind_some, new14 T hT, rn, odT, Bool.not_true, cond_false, cond_true, phEta]
  rw [hr]
  simp only [Option.bind_some, may14 hT p hp, allowed14 hT p hp, phEta, odT, cond_true, jobberlaw14_AllowRuns.law]

theorem there_eq {T : List TR} {k : Int} (k0 : 0 ≤ k) (k1 : k ≤ 31) : there T k = !odec ((tr T k).2.2.1 = 0) := by
  simp only [there, ot (show 0 ≤ k ∧ k ≤ 31 from ⟨k0, k1⟩), cond_true]
theorem may_gone {T : List TR} {p : Ph} {n act inst other : Int} (h : there T n = false ∨ (tr T n).2.2.2.2.1 = true) : may T p n act inst other ≠ 0 := by
  unfold may
  rcases h with h | h
  · rw [h]; simp
  · rw [h]
    cases there T n <;> simp
theorem may_killed {T : List TR} {p : Ph} {n act inst other : Int} (h : killed p (tr T n).1 = true) (h2 : ¬ act = 2) (h4 : ¬ act = 4) : may T p n act inst other ≠ 0 := by
  unfold may
  rw [h, of_ h2, of_ h4]
  cases there T n <;> cases (tr T n).2.2.2.2.1 <;> simp
theorem may_halted {T : List TR} {p : Ph} {n inst other : Int} (h : halted p inst = true) (h0 : 0 ≤ inst) (h1 : inst ≤ 7) : may T p n 1 inst other ≠ 0 := by
  unfold may trd
  rw [h, of_ (show ¬ inst < 0 by omega), of_ (show ¬ inst ≥ 8 by omega), ot (show (1 : Int) = 1 from rfl), of_ (show ¬ (1 : Int) = 2 by omega), of_ (show ¬ (1 : Int) = 4 by omega)]
  cases there T n <;> cases (tr T n).2.2.2.2.1 <;> cases killed p (tr T n).1 <;> cases hs (tr T n) 1 <;> cases odec (band .i64 (shr .i64 (tr T n).2.2.2.1 inst) 1 = 0) <;> simp
theorem getD_set {l : List Bool} {f : Int} (hl : l.length = 8) (h0 : 0 ≤ f) (h1 : f ≤ 7) : (l.set f.toNat true).getD f.toNat false = true := by
  have : f.toNat < l.length := by rw [hl]; omega
  simp [List.getD_eq_getElem?_getD, this]
theorem tr_firm {T : List TR} (h : OkTree T) {k : Int} (k0 : 0 ≤ k) (k1 : k ≤ 31) : 0 ≤ (tr T k).1 ∧ (tr T k).1 ≤ 7 := by
  rcases h.2 (tr T k) (List.mem_of_getElem? (tr_get h k0 k1)) with e | e
  · rw [e]; simp [Z]
  · exact ⟨e.1, e.2.1⟩
theorem jobberlaw14_AllowOff.law (l : List (Int × Int × Int × Int × Int × Bool × Unit)) (p : Ph) (n act inst other : Int) (h0 : Rng (.deep tAsk) l) (h1 : Rng tPh p) (h2 : Rng (.int .i64) n) (h3 : Rng (.int .i64) act) (h4 : Rng (.int .i64) inst) (h5 : Rng (.int .i64) other) : jobberlaw14_AllowOff ((l, p, n, act, inst, other, ()), ()) = some ((true, ()), ()) := by
  obtain ⟨T, hT, eT⟩ := some14 l h0
  have hp := okPh h1
  obtain ⟨k, k0, k1, ek⟩ := within14 (rng64 h2) (lo := 0) (hi := 31) (by omega) (by omega) (by omega) (by omega)
  obtain ⟨i, i0, i1, ei⟩ := within14 (rng64 h4) (lo := 0) (hi := 7) (by omega) (by omega) (by omega) (by omega)
  obtain ⟨f0, f1⟩ := tr_firm hT k0 k1
  have hk := getD_get (d := false) hp.2.1 f0 f1
  have hi := getD_get (d := false) hp.1 i0 i1
  have hq : OkPh (p.1, p.2.1.set (tr T k).1.toNat true, p.2.2.1, ()) := ⟨hp.1, by simp [hp.2.1], hp.2.2⟩
  have hh : OkPh (p.1.set i.toNat true, p.2.1, p.2.2.1, ()) := ⟨by simp [hp.1], hp.2.1, hp.2.2⟩
  have m1 := may14 hT _ hq k 1 i k
  have m2 := may14 hT _ hq k 3 0 other
  have m3 := may14 hT _ hh k 1 i k
  have c1 : may T (p.1, p.2.1.set (tr T k).1.toNat true, p.2.2.1, ()) k 1 i k ≠ 0 := may_killed (getD_set hp.2.1 f0 f1) (by omega) (by omega)
  have c2 : may T (p.1, p.2.1.set (tr T k).1.toNat true, p.2.2.1, ()) k 3 0 other ≠ 0 := may_killed (getD_set hp.2.1 f0 f1) (by omega) (by omega)
  have c3 : may T (p.1.set i.toNat true, p.2.1, p.2.2.1, ()) k 1 i k ≠ 0 := may_halted (getD_set hp.1 i0 i1) i0 i1
  by_cases hr : (tr T k).2.2.1 = 0
  · have m0 := may14 hT p hp k act inst other
    have c0 : may T p k act inst other ≠ 0 := may_gone (.inl (by rw [there_eq k0 k1, ot hr]; rfl))
    simp only [jobberlaw14_AllowOff, eT, ek, ei, Option.bind_some, new14 T hT, ot (show 0 ≤ k ∧ k < (32 : Nat) by omega), cond_true, tr_get hT k0 k1, ot hr, Bool.not_true, cond_false, phEta, m0, of_ c0, ot (show 0 ≤ (tr T k).1 ∧ (tr T k).1 < (8 : Nat) by omega), hk, ot (show 0 ≤ i ∧ i < (8 : Nat) by omega), hi, m1, m2, m3, of_ c1, of_ c2, of_ c3, Bool.not_false, jobberlaw14_AllowRuns.law]
  · have hl : Live (tr T k) := there_live hT (by rw [there_eq k0 k1, of_ hr]; rfl)
    have hU := okSet (n := k) hT ((tr T k).1, (tr T k).2.1, (tr T k).2.2.1, (tr T k).2.2.2.1, true, (tr T k).2.2.2.2.2.1, ()) (.inr hl)
    have m0 := may14 hU p hp k act inst other
    have c0 : may (T.set k.toNat ((tr T k).1, (tr T k).2.1, (tr T k).2.2.1, (tr T k).2.2.2.1, true, (tr T k).2.2.2.2.2.1, ())) p k act inst other ≠ 0 := may_gone (.inr (by rw [tr_set hT k0 k1 k0 k1, if_pos rfl]))
    have hg := tr_get hU k0 k1
    rw [tr_set hT k0 k1 k0 k1, if_pos rfl] at hg
    simp only [jobberlaw14_AllowOff, eT, ek, ei, Option.bind_some, new14 T hT, new14 _ hU, ot (show 0 ≤ k ∧ k < (32 : Nat) by omega), cond_true, tr_get hT k0 k1, of_ hr, Bool.not_false, cond_false, phEta, m0, of_ c0, hg, ot (show 0 ≤ (tr T k).1 ∧ (tr T k).1 < (8 : Nat) by omega), hk, ot (show 0 ≤ i ∧ i < (8 : Nat) by omega), hi, m1, m2, m3, of_ c1, of_ c2, of_ c3, jobberlaw14_AllowRuns.law]
theorem getD_set_ne {l : List Int} {f g : Int} (h0 : 0 ≤ f) (g0 : 0 ≤ g) (h : ¬ f = g) (v : Int) : (l.set f.toNat v).getD g.toNat 0 = l.getD g.toNat 0 := by
  simp only [List.getD_eq_getElem?_getD]
  rw [List.getElem?_set_ne (by omega)]
theorem jobberlaw14_AllowFirms.law (l : List (Int × Int × Int × Int × Int × Bool × Unit)) (p : Ph) (n other firm : Int) (h0 : Rng (.deep tAsk) l) (h1 : Rng tPh p) (h2 : Rng (.int .i64) n) (h3 : Rng (.int .i64) other) (h4 : Rng (.int .i64) firm) : jobberlaw14_AllowFirms ((l, p, n, other, firm, ()), ()) = some ((true, ()), ()) := by
  obtain ⟨T, hT, eT⟩ := some14 l h0
  have hp := okPh h1
  obtain ⟨a, a0, a1, ea⟩ := within14 (rng64 h2) (lo := 0) (hi := 31) (by omega) (by omega) (by omega) (by omega)
  obtain ⟨b, b0, b1, eb⟩ := within14 (rng64 h3) (lo := 0) (hi := 31) (by omega) (by omega) (by omega) (by omega)
  obtain ⟨k, k0, k1, ek⟩ := within14 (rng64 h4) (lo := 0) (hi := 7) (by omega) (by omega) (by omega) (by omega)
  cases ta : there T a with
  | false => simp only [jobberlaw14_AllowFirms, eT, ea, eb, Option.bind_some, new14 T hT, there14 hT, ta, Bool.not_false, cond_true, jobberlaw14_AllowRuns.law]
  | true =>
    cases tb : there T b with
    | false => simp only [jobberlaw14_AllowFirms, eT, ea, eb, Option.bind_some, new14 T hT, there14 hT, ta, tb, Bool.not_false, Bool.not_true, cond_false, cond_true, jobberlaw14_AllowRuns.law]
    | true =>
      by_cases hf : (tr T a).1 = (tr T b).1
      · simp only [jobberlaw14_AllowFirms, eT, ea, eb, Option.bind_some, new14 T hT, there14 hT, ta, tb, Bool.not_false, Bool.not_true, cond_false, cond_true, ot (show 0 ≤ a ∧ a < (32 : Nat) by omega), ot (show 0 ≤ b ∧ b < (32 : Nat) by omega), tr_get hT a0 a1, tr_get hT b0 b1, ot hf, jobberlaw14_AllowRuns.law]
      · by_cases h8 : band .i64 (tr T a).2.2.1 8 = 0
        · obtain ⟨f0, f1⟩ := tr_firm hT a0 a1
          obtain ⟨g0, g1⟩ := tr_firm hT b0 b1
          have hg := getD_get (d := (0 : Int)) hp.2.2 f0 f1
          have hk := getD_get (d := (0 : Int)) hp.2.2 k0 k1
          have m1 := may14 hT p hp a 3 0 b
          have m2 := may14 hT p hp a 2 0 b
          have hs8 : hs (tr T a) 8 = false := by simp only [hs, ot h8, Bool.not_true]
          have c1 : may T p a 3 0 b ≠ 0 := by
            have hf2 : ¬ (tr T b).1 = (tr T a).1 := fun h => hf h.symm
            simp only [may, ta, tb, hs8, of_ hf2, Bool.and_false, Bool.or_false, Bool.not_true, cond_false, of_ (show ¬ (3 : Int) = 1 by omega), of_ (show ¬ (3 : Int) = 2 by omega), of_ (show ¬ (3 : Int) = 4 by omega), ot (show (3 : Int) = 3 from rfl), odT, cond_true, Bool.not_false, Bool.and_true]
            cases (tr T a).2.2.2.2.1 <;> cases killed p (tr T a).1 <;> simp
          have hab : ¬ b = a := fun h => hf (by rw [h])
          have c2 : may T p a 2 0 b = 0 → band .i64 (shr .i64 (grants p (tr T a).1) (tr T b).1) 1 = 1 := by
            intro h
            refine Classical.byContradiction fun hn => ?_
            have hcan : canc p (tr T a) (tr T b) = false := by simp only [canc, hs8, of_ hf, gr, of_ hn, Bool.or_false, Bool.and_false, Bool.false_or, Bool.false_and]
            simp only [may, ta, tb, hcan, of_ hab, Bool.not_true, cond_false, of_ (show ¬ (2 : Int) = 1 by omega), of_ (show ¬ (2 : Int) = 4 by omega), ot (show (2 : Int) = 2 from rfl), odT, cond_true, Bool.not_false, Bool.and_true, Bool.and_false, Bool.false_and, Bool.or_false] at h
            cases ho : (tr T a).2.2.2.2.1 <;> simp [ho] at h
          have hq : OkPh (p.1, p.2.1, p.2.2.1.set k.toNat 255, ()) := ⟨hp.1, hp.2.1, by simp [hp.2.2]⟩
          have m3 := may14 hT _ hq a 2 0 b
          have c3 : ¬ k = (tr T a).1 → may T (p.1, p.2.1, p.2.2.1.set k.toNat 255, ()) a 2 0 b = may T p a 2 0 b := by
            intro hne
            have e : grants (p.1, p.2.1, p.2.2.1.set k.toNat 255, ()) (tr T a).1 = grants p (tr T a).1 := getD_set_ne k0 f0 hne 255
            have e2 : gr (p.1, p.2.1, p.2.2.1.set k.toNat 255, ()) (tr T a) (tr T b) = gr p (tr T a) (tr T b) := by simp only [gr, e]
            have e3 : canc (p.1, p.2.1, p.2.2.1.set k.toNat 255, ()) (tr T a) (tr T b) = canc p (tr T a) (tr T b) := by simp only [canc, e2]
            simp only [may, e3, killed, ot (show (2 : Int) = 2 from rfl), odT, of_ (show ¬ (2 : Int) = 1 by omega), of_ (show ¬ (2 : Int) = 4 by omega), cond_false, cond_true]
          by_cases hz : may T p a 2 0 b = 0
          · have hgr := c2 hz
            by_cases hne : k = (tr T a).1
            · simp only [jobberlaw14_AllowFirms, eT, ea, eb, ek, Option.bind_some, new14 T hT, there14 hT, ta, tb, Bool.not_false, Bool.not_true, cond_false, cond_true, ot (show 0 ≤ a ∧ a < (32 : Nat) by omega), ot (show 0 ≤ b ∧ b < (32 : Nat) by omega), tr_get hT a0 a1, tr_get hT b0 b1, of_ hf, ot h8, ot (show 0 ≤ (tr T a).1 ∧ (tr T a).1 < (8 : Nat) by omega), hg, of_ (show ¬ (tr T b).1 < 0 by omega), phEta, m1, m2, of_ c1, ot hz, ot hgr, ot hne, odT, jobberlaw14_AllowRuns.law]
            · have e3 := c3 hne
              rw [e3] at m3
              simp only [jobberlaw14_AllowFirms, eT, ea, eb, ek, Option.bind_some, new14 T hT, there14 hT, ta, tb, Bool.not_false, Bool.not_true, cond_false, cond_true, ot (show 0 ≤ a ∧ a < (32 : Nat) by omega), ot (show 0 ≤ b ∧ b < (32 : Nat) by omega), tr_get hT a0 a1, tr_get hT b0 b1, of_ hf, ot h8, ot (show 0 ≤ (tr T a).1 ∧ (tr T a).1 < (8 : Nat) by omega), hg, of_ (show ¬ (tr T b).1 < 0 by omega), phEta, m1, m2, m3, of_ c1, ot hz, ot hgr, of_ hne, ot (show 0 ≤ k ∧ k < (8 : Nat) by omega), hk, odT, jobberlaw14_AllowRuns.law]
          · by_cases hne : k = (tr T a).1
            · simp only [jobberlaw14_AllowFirms, eT, ea, eb, ek, Option.bind_some, new14 T hT, there14 hT, ta, tb, Bool.not_false, Bool.not_true, cond_false, cond_true, ot (show 0 ≤ a ∧ a < (32 : Nat) by omega), ot (show 0 ≤ b ∧ b < (32 : Nat) by omega), tr_get hT a0 a1, tr_get hT b0 b1, of_ hf, ot h8, ot (show 0 ≤ (tr T a).1 ∧ (tr T a).1 < (8 : Nat) by omega), hg, of_ (show ¬ (tr T b).1 < 0 by omega), phEta, m1, m2, of_ c1, of_ hz, ot hne, odT, jobberlaw14_AllowRuns.law]
            · have e3 := c3 hne
              rw [e3] at m3
              simp only [jobberlaw14_AllowFirms, eT, ea, eb, ek, Option.bind_some, new14 T hT, there14 hT, ta, tb, Bool.not_false, Bool.not_true, cond_false, cond_true, ot (show 0 ≤ a ∧ a < (32 : Nat) by omega), ot (show 0 ≤ b ∧ b < (32 : Nat) by omega), tr_get hT a0 a1, tr_get hT b0 b1, of_ hf, ot h8, ot (show 0 ≤ (tr T a).1 ∧ (tr T a).1 < (8 : Nat) by omega), hg, of_ (show ¬ (tr T b).1 < 0 by omega), phEta, m1, m2, m3, of_ c1, of_ hz, of_ hne, ot (show 0 ≤ k ∧ k < (8 : Nat) by omega), hk, odT, jobberlaw14_AllowRuns.law]
        · simp only [jobberlaw14_AllowFirms, eT, ea, eb, Option.bind_some, new14 T hT, there14 hT, ta, tb, Bool.not_false, Bool.not_true, cond_false, cond_true, ot (show 0 ≤ a ∧ a < (32 : Nat) by omega), ot (show 0 ≤ b ∧ b < (32 : Nat) by omega), tr_get hT a0 a1, tr_get hT b0 b1, of_ hf, of_ h8, jobberlaw14_AllowRuns.law]

theorem bor_roles {a m : Int} (a0 : 1 ≤ a) (a1 : a ≤ 15) (m0 : 0 ≤ m) (m1 : m ≤ 15) : 1 ≤ bor .i64 a m ∧ bor .i64 a m ≤ 15 := by
  rw [bor_nat (by omega) (by omega) m0 (by omega)]
  have h1 : a.toNat ≤ a.toNat ||| m.toNat := Nat.left_le_or
  have h2 : a.toNat ||| m.toNat < 2 ^ 4 := Nat.or_lt_two_pow (by omega) (by omega)
  omega
theorem band_bor {a m r : Int} (a0 : 1 ≤ a) (a1 : a ≤ 15) (m0 : 0 ≤ m) (m1 : m ≤ 15) (r0 : 0 ≤ r) (r1 : r ≤ 255) (h : ¬ band .i64 a r = 0) : ¬ band .i64 (bor .i64 a m) r = 0 := by
  obtain ⟨b0, b1⟩ := bor_roles a0 a1 m0 m1
  rw [band_nat (by omega) (by omega) r0 r1] at h ⊢
  rw [bor_nat (by omega) (by omega) m0 (by omega)]
  have e : ((a.toNat ||| m.toNat : Nat) : Int).toNat = a.toNat ||| m.toNat := by omega
  rw [e, Nat.and_or_distrib_right]
  have h1 : a.toNat &&& r.toNat ≤ (a.toNat &&& r.toNat) ||| (m.toNat &&& r.toNat) := Nat.left_le_or
  omega
theorem hs_bor {x : TR} {m r : Int} (hx : Live x) (m0 : 0 ≤ m) (m1 : m ≤ 15) (r0 : 0 ≤ r) (r1 : r ≤ 255) (h : hs x r = true) : hs (x.1, x.2.1, bor .i64 x.2.2.1 m, x.2.2.2.1, x.2.2.2.2.1, x.2.2.2.2.2.1, ()) r = true := by
  have h0 : ¬ band .i64 x.2.2.1 r = 0 := by
    intro e
    simp only [hs, ot e] at h
    cases h
  simp only [hs, of_ (band_bor hx.2.2.2.2.1 hx.2.2.2.2.2.1 m0 m1 r0 r1 h0), Bool.not_false]
/-- what is allowed stays so, with more roles -/
theorem may_more {T U : List TR} {p : Ph} {k act inst other : Int} (hth : there U k = there T k) (ho : there U other = there T other) (hf : (tr U k).1 = (tr T k).1) (hd : (tr U k).2.1 = (tr T k).2.1) (hi : (tr U k).2.2.2.1 = (tr T k).2.2.2.1) (hoff : (tr U k).2.2.2.2.1 = (tr T k).2.2.2.2.1)
    (hof : (tr U other).1 = (tr T other).1) (hod : (tr U other).2.1 = (tr T other).2.1) (h1 : hs (tr T k) 1 = true → hs (tr U k) 1 = true) (h2 : hs (tr T k) 2 = true → hs (tr U k) 2 = true) (h4 : hs (tr T k) 4 = true → hs (tr U k) 4 = true) (h8 : hs (tr T k) 8 = true → hs (tr U k) 8 = true)
    (h : may T p k act inst other = 0) : may U p k act inst other = 0 := by
  have hc : canc p (tr T k) (tr T other) = true → canc p (tr U k) (tr U other) = true := by
    simp only [canc, gr, hf, hd, hof, hod, Bool.or_eq_true, Bool.and_eq_true]
    rintro ((h | ⟨h, g⟩) | ⟨⟨h, g⟩, g2⟩)
    · exact .inl (.inl (h8 h))
    · exact .inl (.inr ⟨h4 h, g⟩)
    · exact .inr ⟨⟨h2 h, g⟩, g2⟩
  simp only [may] at h ⊢
  rw [hth, ho, hoff, hf, hof]
  cases ht : there T k with
  | false => rw [ht] at h; simp at h
  | true =>
    rw [ht] at h
    cases hof2 : (tr T k).2.2.2.2.1 with
    | true => rw [hof2] at h; simp at h
    | false =>
      rw [hof2] at h
      simp only [Bool.not_true, cond_false] at h ⊢
      cases hk : (killed p (tr T k).1 && !odec (act = 2) && !odec (act = 4)) with
      | true => rw [hk] at h; simp at h
      | false =>
        rw [hk] at h
        simp only [cond_false] at h ⊢
        by_cases a1 : act = 1
        · rw [ot a1] at h ⊢
          simp only [cond_true, trd, hi] at h ⊢
          cases e : hs (tr T k) 1 with
          | false =>
            exfalso
            rw [e] at h
            revert h
            cases odec (inst < 0) <;> cases odec (inst ≥ 8) <;> simp
          | true => rw [e] at h; rw [h1 e]; exact h
        · rw [of_ a1] at h ⊢
          simp only [cond_false] at h ⊢
          by_cases a4 : act = 4
          · rw [ot a4] at h ⊢
            simp only [cond_true] at h ⊢
            cases e : hs (tr T k) 8 with
            | false => rw [e] at h; simp at h
            | true => rw [h8 e]; rfl
          · rw [of_ a4] at h ⊢
            simp only [cond_false] at h ⊢
            by_cases a2 : act = 2
            · rw [ot a2] at h ⊢
              simp only [cond_true] at h ⊢
              cases hto : there T other with
              | false => rw [hto] at h; simp at h
              | true =>
                rw [hto] at h
                simp only [Bool.not_true, cond_false] at h ⊢
                cases e : odec (other = k) with
                | true => simp
                | false =>
                  rw [e] at h
                  simp only [Bool.false_or] at h ⊢
                  cases e2 : canc p (tr T k) (tr T other) with
                  | false => rw [e2] at h; simp at h
                  | true => rw [hc e2]; rfl
            · rw [of_ a2] at h ⊢
              simp only [cond_false] at h ⊢
              by_cases a3 : act = 3
              · rw [ot a3] at h ⊢
                simp only [cond_true] at h ⊢
                cases hto : there T other with
                | false => rw [hto] at h; simp at h
                | true =>
                  rw [hto] at h
                  simp only [Bool.not_true, cond_false] at h ⊢
                  cases e : odec (other = k) with
                  | true => rw [e] at h; simp at h
                  | false =>
                    rw [e] at h
                    cases e8 : hs (tr T k) 8 with
                    | true => rw [h8 e8]; simp
                    | false =>
                      rw [e8] at h
                      cases e4 : hs (tr T k) 4 with
                      | false => rw [e4] at h; simp at h
                      | true =>
                        rw [e4] at h
                        rw [h4 e4]
                        cases e9 : hs (tr U k) 8 with
                        | true => simp
                        | false => simpa using h
              · rw [of_ a3] at h; simp at h
theorem may_plain {U : List TR} {p : Ph} {k act inst other : Int} (hr : (tr U k).2.2.1 = 1) (h : may U p k act inst other = 0) : act = 1 ∨ (act = 2 ∧ other = k) := by
  have b8 : hs (tr U k) 8 = false := by
    have : band .i64 1 8 = 0 := by rw [band_nat (by omega) (by omega) (by omega) (by omega)]; rfl
    simp only [hs, hr, ot this, Bool.not_true]
  have b4 : hs (tr U k) 4 = false := by
    have : band .i64 1 4 = 0 := by rw [band_nat (by omega) (by omega) (by omega) (by omega)]; rfl
    simp only [hs, hr, ot this, Bool.not_true]
  have b2 : hs (tr U k) 2 = false := by
    have : band .i64 1 2 = 0 := by rw [band_nat (by omega) (by omega) (by omega) (by omega)]; rfl
    simp only [hs, hr, ot this, Bool.not_true]
  by_cases a1 : act = 1
  · exact .inl a1
  · right
    refine Classical.byContradiction fun hn => ?_
    simp only [may, canc, b8, b4, b2, of_ a1, Bool.false_and, Bool.or_false, Bool.and_false, cond_false] at h
    by_cases a2 : act = 2
    · have ho : ¬ other = k := fun e => hn ⟨a2, e⟩
      rw [ot a2, of_ ho] at h
      revert h
      cases there U k <;> cases (tr U k).2.2.2.2.1 <;> cases killed p (tr U k).1 <;> cases odec (act = 4) <;> cases there U other <;> simp
    · rw [of_ a2] at h
      revert h
      cases there U k <;> cases (tr U k).2.2.2.2.1 <;> cases killed p (tr U k).1 <;> cases odec (act = 4) <;> cases odec (act = 3) <;> cases there U other <;> simp
theorem jobberlaw14_AllowMore.law (l : List (Int × Int × Int × Int × Int × Bool × Unit)) (p : Ph) (n act inst other more : Int) (h0 : Rng (.deep tAsk) l) (h1 : Rng tPh p) (h2 : Rng (.int .i64) n) (h3 : Rng (.int .i64) act) (h4 : Rng (.int .i64) inst) (h5 : Rng (.int .i64) other) (h6 : Rng (.int .i64) more) : jobberlaw14_AllowMore ((l, p, n, act, inst, other, more, ()), ()) = some ((true, ()), ()) := by
  obtain ⟨T, hT, eT⟩ := some14 l h0
  have hp := okPh h1
  obtain ⟨k, k0, k1, ek⟩ := within14 (rng64 h2) (lo := 0) (hi := 31) (by omega) (by omega) (by omega) (by omega)
  obtain ⟨m, m0, m1, em⟩ := within14 (rng64 h6) (lo := 0) (hi := 15) (by omega) (by omega) (by omega) (by omega)
  have mT := may14 hT p hp k act inst other
  by_cases hr : (tr T k).2.2.1 = 0
  · have hth : there T k = false := by rw [there_eq k0 k1, ot hr]; rfl
    have c0 : may T p k act inst other ≠ 0 := may_gone (.inl hth)
    simp only [jobberlaw14_AllowMore, eT, ek, em, Option.bind_some, ot (show 0 ≤ k ∧ k < (32 : Nat) by omega), cond_true, tr_get hT k0 k1, ot hr, Bool.not_true, cond_false, new14 T hT, phEta, mT, of_ c0, Bool.not_false, jobberlaw14_AllowRuns.law]
  · have hl : Live (tr T k) := there_live hT (by rw [there_eq k0 k1, of_ hr]; rfl)
    obtain ⟨r0, r1⟩ := bor_roles hl.2.2.2.2.1 hl.2.2.2.2.2.1 m0 m1
    have hU := okSet (n := k) hT ((tr T k).1, (tr T k).2.1, bor .i64 (tr T k).2.2.1 m, (tr T k).2.2.2.1, (tr T k).2.2.2.2.1, (tr T k).2.2.2.2.2.1, ()) (.inr ⟨hl.1, hl.2.1, hl.2.2.1, hl.2.2.2.1, r0, r1, hl.2.2.2.2.2.2.1, hl.2.2.2.2.2.2.2⟩)
    have hV := okSet (n := k) hT ((tr T k).1, (tr T k).2.1, 1, (tr T k).2.2.2.1, (tr T k).2.2.2.2.1, (tr T k).2.2.2.2.2.1, ()) (.inr ⟨hl.1, hl.2.1, hl.2.2.1, hl.2.2.2.1, by simp only; omega, by simp only; omega, hl.2.2.2.2.2.2.1, hl.2.2.2.2.2.2.2⟩)
    have mU := may14 hU p hp k act inst other
    have mV := may14 hV p hp k act inst other
    have tU := tr_set hT k0 k1 k0 k1 ((tr T k).1, (tr T k).2.1, bor .i64 (tr T k).2.2.1 m, (tr T k).2.2.2.1, (tr T k).2.2.2.2.1, (tr T k).2.2.2.2.2.1, ())
    rw [if_pos rfl] at tU
    have tV := tr_set hT k0 k1 k0 k1 ((tr T k).1, (tr T k).2.1, 1, (tr T k).2.2.2.1, (tr T k).2.2.2.2.1, (tr T k).2.2.2.2.2.1, ())
    rw [if_pos rfl] at tV
    have grow : may T p k act inst other = 0 → may (T.set k.toNat ((tr T k).1, (tr T k).2.1, bor .i64 (tr T k).2.2.1 m, (tr T k).2.2.2.1, (tr T k).2.2.2.2.1, (tr T k).2.2.2.2.2.1, ())) p k act inst other = 0 := by
      refine may_more ?_ ?_ (by rw [tU]) (by rw [tU]) (by rw [tU]) (by rw [tU]) ?_ ?_ (fun h => by rw [tU]; exact hs_bor hl m0 m1 (by omega) (by omega) h) (fun h => by rw [tU]; exact hs_bor hl m0 m1 (by omega) (by omega) h) (fun h => by rw [tU]; exact hs_bor hl m0 m1 (by omega) (by omega) h) (fun h => by rw [tU]; exact hs_bor hl m0 m1 (by omega) (by omega) h)
      · rw [there_set hT k0 k1, if_pos rfl, of_ (show ¬ bor .i64 (tr T k).2.2.1 m = 0 by omega), there_eq k0 k1, of_ hr]
      · rw [there_set hT k0 k1]
        by_cases e : other = k
        · rw [if_pos e, of_ (show ¬ bor .i64 (tr T k).2.2.1 m = 0 by omega), e, there_eq k0 k1, of_ hr]
        · rw [if_neg e]
      · by_cases e : other.toNat = k.toNat
        · simp only [tr, e]; exact congrArg (·.1) tU
        · simp only [tr, List.getD_eq_getElem?_getD]; rw [List.getElem?_set_ne (fun h => e h.symm)]
      · by_cases e : other.toNat = k.toNat
        · simp only [tr, e]; exact congrArg (·.2.1) tU
        · simp only [tr, List.getD_eq_getElem?_getD]; rw [List.getElem?_set_ne (fun h => e h.symm)]
    have plain := may_plain (U := T.set k.toNat ((tr T k).1, (tr T k).2.1, 1, (tr T k).2.2.2.1, (tr T k).2.2.2.2.1, (tr T k).2.2.2.2.2.1, ())) (p := p) (k := k) (act := act) (inst := inst) (other := other) (by rw [tV])
    have head : ∀ (a b c : Int), (a = 0 → b = 0) → (c = 0 → act = 1 ∨ (act = 2 ∧ other = k)) →
        (bif odec (a = 0) then (bif !odec (b = 0) then (some ((false, ()), ()) : Option ((Bool × Unit) × Unit)) else (bif !odec (c = 0) then some ((true, ()), ()) else (bif odec (act = 1) then some ((true, ()), ()) else (bif odec (act = 2) then (bif odec (other = k) then some ((true, ()), ()) else some ((false, ()), ())) else some ((false, ()), ())))))
         else (bif !odec (c = 0) then some ((true, ()), ()) else (bif odec (act = 1) then some ((true, ()), ()) else (bif odec (act = 2) then (bif odec (other = k) then some ((true, ()), ()) else some ((false, ()), ())) else some ((false, ()), ()))))) = some ((true, ()), ()) := by
      intro a b c hab hc
      have tail : (bif !odec (c = 0) then (some ((true, ()), ()) : Option ((Bool × Unit) × Unit)) else (bif odec (act = 1) then some ((true, ()), ()) else (bif odec (act = 2) then (bif odec (other = k) then some ((true, ()), ()) else some ((false, ()), ())) else some ((false, ()), ())))) = some ((true, ()), ()) := by
        by_cases hc0 : c = 0
        · rw [ot hc0]
          rcases hc hc0 with e | ⟨e, e2⟩
          · rw [ot e]; rfl
          · rw [of_ (show ¬ act = 1 by omega), ot e, ot e2]; rfl
        · rw [of_ hc0]; rfl
      by_cases ha : a = 0
      · rw [ot ha, ot (hab ha)]; exact tail
      · rw [of_ ha]; exact tail
    have hd := head _ _ _ grow plain
    simp only [jobberlaw14_AllowMore, eT, ek, em, Option.bind_some, ot (show 0 ≤ k ∧ k < (32 : Nat) by omega), cond_true, tr_get hT k0 k1, of_ hr, Bool.not_false, new14 T hT, new14 _ hU, new14 _ hV, phEta, mT, mU, mV, jobberlaw14_AllowRuns.law]
    exact hd
end AM
