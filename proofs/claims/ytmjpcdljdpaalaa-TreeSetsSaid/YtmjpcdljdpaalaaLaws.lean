/- The laws of chapter 13, in plain Lean. -/
import Derived.Test.YtmjpcdljdpaalaaPrn
set_option linter.unusedVariables false
set_option linter.unusedSimpArgs false
namespace AM
open Go
set_option maxRecDepth 100000
theorem within13 {v lo hi : Int} (hv : -9223372036854775808 ≤ v ∧ v ≤ 9223372036854775807) (h0 : -4611686018427387904 ≤ lo) (h1 : lo ≤ hi) (h2 : hi ≤ 4611686018427387902) (h3 : hi - lo < 4611686018427387904) :
    ∃ r, lo ≤ r ∧ r ≤ hi ∧ jobberbook_Within ((v, lo, hi, ()), ()) = some ((r, ()), ()) := within_ok hv h0 h1 h2 h3
abbrev TR := Int × Int × Int × Int × Bool × (List Int) × Unit
def Z : TR := (0, 0, 0, 0, false, List.replicate 32 (0 : Int), ())
theorem trEta (x : TR) : (x.1, x.2.1, x.2.2.1, x.2.2.2.1, x.2.2.2.2.1, x.2.2.2.2.2.1, ()) = x := by cases x; rfl
def Live (x : TR) : Prop := 0 ≤ x.1 ∧ x.1 ≤ 7 ∧ 0 ≤ x.2.1 ∧ x.2.1 ≤ 15 ∧ 1 ≤ x.2.2.1 ∧ x.2.2.1 ≤ 15 ∧ 0 ≤ x.2.2.2.1 ∧ x.2.2.2.1 ≤ 255
def OkTree (T : List TR) : Prop := T.length = 32 ∧ ∀ x ∈ T, x.2.2.1 = 0 ∨ Live x
def Zed (T : List TR) : Prop := T.length = 32 ∧ ∀ x ∈ T, x = Z ∨ Live x
theorem Zed.ok {T : List TR} (h : Zed T) : OkTree T := ⟨h.1, fun x hx => (h.2 x hx).imp (fun e => by rw [e]; rfl) id⟩
theorem inside13 (v hi : Int) : tree_within ((v, hi, ()), ()) = some ((decide (0 ≤ v ∧ v ≤ hi), ()), ()) := by
  simp only [tree_within, odec_eq, Bool.cond_decide]
  by_cases h : v ≥ 0
  · rw [if_pos h]
    have : (0 ≤ v ∧ v ≤ hi) ↔ v ≤ hi := ⟨fun h => h.2, fun h2 => ⟨h, h2⟩⟩
    simp only [this]
  · rw [if_neg h, decide_eq_false (fun h2 => h h2.1)]
theorem right13 (x : TR) (h : Live x) : tree_Right ((x, ()), ()) = some ((true, ()), ()) := by
  obtain ⟨a, b, c, d, e, f, g, k⟩ := h
  simp only [tree_Right, inside13, Option.bind_some, decide_eq_true (show 0 ≤ x.1 ∧ x.1 ≤ 7 from ⟨a, b⟩), decide_eq_true (show 0 ≤ x.2.1 ∧ x.2.1 ≤ 15 from ⟨c, d⟩), decide_eq_true (show 0 ≤ x.2.2.1 ∧ x.2.2.1 ≤ 15 from ⟨by omega, f⟩), decide_eq_true (show 0 ≤ x.2.2.2.1 ∧ x.2.2.2.1 ≤ 255 from ⟨g, k⟩), cond_true]
theorem teqs_self : ∀ l : List Int, ((l.zip l).all fun p => teq (.int .u8) p.1 p.2) = true
  | [] => rfl
  | x :: l => by
    have := teqs_self l
    simp only [List.zip_cons_cons, List.all_cons, this, Bool.and_true]
    simp [teq, intEq, odec_eq]
theorem intEq_self (a : Int) : intEq a a = true := by simp [intEq, odec_eq]
theorem intEq_ne {a b : Int} (h : a ≠ b) : intEq a b = false := by simp [intEq, odec_eq, h]
theorem refRight13 (x : TR) (h : Live x) : jobberref13_RightTrader ((x, ()), ()) = some ((true, ()), ()) := by
  obtain ⟨a, b, c, d, e, f, g, k⟩ := h
  simp only [jobberref13_RightTrader, ot (show x.1 ≥ 0 from a), ot (show x.1 < 8 by omega), ot (show x.2.1 ≥ 0 from c), ot (show x.2.1 < 16 by omega), ot (show x.2.2.1 ≥ 0 by omega), ot (show x.2.2.1 < 16 by omega), ot (show x.2.2.2.1 ≥ 0 from g), ot (show x.2.2.2.1 < 256 by omega), cond_true]
/-- the trader of a number -/
abbrev tr (T : List TR) (n : Int) : TR := T.getD n.toNat Z
noncomputable def there (T : List TR) (n : Int) : Bool := bif odec (0 ≤ n ∧ n ≤ 31) then !odec ((tr T n).2.2.1 = 0) else false
theorem tr_get {T : List TR} (h : OkTree T) {n : Int} (h0 : 0 ≤ n) (h1 : n ≤ 31) : T[n.toNat]? = some (tr T n) := by
  have : n.toNat < T.length := by rw [h.1]; omega
  simp [tr, List.getD_eq_getElem?_getD, List.getElem?_eq_getElem this]
theorem there13 {T : List TR} (h : OkTree T) (n : Int) : tree_Tree_There (((), n, ()), ((T, ()), ())) = some ((there T n, ()), ((T, ()), ())) := by
  by_cases hn : 0 ≤ n ∧ n ≤ 31
  · simp only [tree_Tree_There, inside13, Option.bind_some, decide_eq_true hn, cond_true, ot (show 0 ≤ n ∧ n < (32 : Nat) by omega), tr_get h hn.1 hn.2, there, ot hn]
  · simp only [tree_Tree_There, inside13, Option.bind_some, decide_eq_false hn, cond_false, there, of_ hn]
theorem refThere13 {T : List TR} (h : OkTree T) (n : Int) : jobberref13_Tree_There (((), n, ()), ((T, ()), ())) = some ((there T n, ()), ((T, ()), ())) := by
  by_cases h0 : n ≥ 0
  · by_cases h1 : n < 32
    · simp only [jobberref13_Tree_There, ot h0, ot h1, cond_true, ot (show 0 ≤ n ∧ n < (32 : Nat) by omega), tr_get h h0 (by omega), Option.bind_some, there, ot (show 0 ≤ n ∧ n ≤ 31 by omega)]
    · simp only [jobberref13_Tree_There, ot h0, of_ h1, cond_true, cond_false, there, of_ (show ¬ (0 ≤ n ∧ n ≤ 31) by omega)]
  · simp only [jobberref13_Tree_There, of_ h0, cond_false, there, of_ (show ¬ (0 ≤ n ∧ n ≤ 31) by omega)]
theorem there_in {T : List TR} {n : Int} (h : there T n = true) : 0 ≤ n ∧ n ≤ 31 := by
  by_cases hn : 0 ≤ n ∧ n ≤ 31
  · exact hn
  · simp [there, of_ hn] at h
theorem there_live {T : List TR} (hT : OkTree T) {n : Int} (h : there T n = true) : Live (tr T n) := by
  obtain ⟨h0, h1⟩ := there_in h
  rcases hT.2 (tr T n) (List.mem_of_getElem? (tr_get hT h0 h1)) with e | e
  · rw [there, ot (show 0 ≤ n ∧ n ≤ 31 from ⟨h0, h1⟩), cond_true, ot e] at h
    cases h
  · exact e
theorem trader13 {T : List TR} (h : OkTree T) (n : Int) : tree_Tree_Trader (((), n, ()), ((T, ()), ())) = some ((bif there T n then tr T n else Z, ()), ((T, ()), ())) := by
  cases ht : there T n with
  | false => simp only [tree_Tree_Trader, there13 h, Option.bind_some, ht, Bool.not_false, cond_true, cond_false, Z]
  | true =>
    obtain ⟨h0, h1⟩ := there_in ht
    simp only [tree_Tree_Trader, there13 h, Option.bind_some, ht, Bool.not_true, cond_true, cond_false, ot (show 0 ≤ n ∧ n < (32 : Nat) by omega), tr_get h h0 h1, trEta]
theorem okSet {T : List TR} (h : OkTree T) {n : Int} (x : TR) (hx : x.2.2.1 = 0 ∨ Live x) : OkTree (T.set n.toNat x) := by
  refine ⟨by rw [List.length_set]; exact h.1, fun y hy => ?_⟩
  rcases List.mem_or_eq_of_mem_set hy with hy | rfl
  · exact h.2 y hy
  · exact hx
theorem tr_set {T : List TR} (h : OkTree T) {n m : Int} (n0 : 0 ≤ n) (n1 : n ≤ 31) (m0 : 0 ≤ m) (m1 : m ≤ 31) (x : TR) : tr (T.set n.toNat x) m = if m = n then x else tr T m := by
  have h1 : n.toNat < T.length := by rw [h.1]; omega
  have h2 : m.toNat < T.length := by rw [h.1]; omega
  simp only [tr, List.getD_eq_getElem?_getD, List.getElem?_set]
  by_cases e : m = n
  · subst e; simp [h1]
  · rw [if_neg e, if_neg (by omega)]
theorem there_set {T : List TR} (h : OkTree T) {n m : Int} (n0 : 0 ≤ n) (n1 : n ≤ 31) (x : TR) : there (T.set n.toNat x) m = if m = n then !odec (x.2.2.1 = 0) else there T m := by
  by_cases hm : 0 ≤ m ∧ m ≤ 31
  · simp only [there, ot hm, cond_true, tr_set h n0 n1 hm.1 hm.2]
    by_cases e : m = n
    · rw [if_pos e, if_pos e]
    · rw [if_neg e, if_neg e]
  · simp only [there, of_ hm, cond_false]
    rw [if_neg (by omega)]

theorem zedSet {T : List TR} (h : Zed T) {n : Int} (x : TR) (hx : x = Z ∨ Live x) : Zed (T.set n.toNat x) := by
  refine ⟨by rw [List.length_set]; exact h.1, fun y hy => ?_⟩
  rcases List.mem_or_eq_of_mem_set hy with hy | rfl
  · exact h.2 y hy
  · exact hx
theorem tr_len {T : List TR} (h : T.length = 32) {n : Int} (h0 : 0 ≤ n) (h1 : n ≤ 31) : T[n.toNat]? = some (tr T n) := by
  have : n.toNat < T.length := by rw [h]; omega
  simp [tr, List.getD_eq_getElem?_getD, List.getElem?_eq_getElem this]
/-- a trader that may be -/
def Rt (x : TR) : Prop := (0 ≤ x.1 ∧ x.1 ≤ 7) ∧ (0 ≤ x.2.1 ∧ x.2.1 ≤ 15) ∧ (0 ≤ x.2.2.1 ∧ x.2.2.1 ≤ 15) ∧ (0 ≤ x.2.2.2.1 ∧ x.2.2.2.1 ≤ 255)
theorem rt13 (x : TR) : tree_Right ((x, ()), ()) = some ((odec (Rt x), ()), ()) := by
  by_cases h1 : 0 ≤ x.1 ∧ x.1 ≤ 7
  · by_cases h2 : 0 ≤ x.2.1 ∧ x.2.1 ≤ 15
    · by_cases h3 : 0 ≤ x.2.2.1 ∧ x.2.2.1 ≤ 15
      · by_cases h4 : 0 ≤ x.2.2.2.1 ∧ x.2.2.2.1 ≤ 255
        · simp only [tree_Right, inside13, Option.bind_some, decide_eq_true h1, decide_eq_true h2, decide_eq_true h3, decide_eq_true h4, cond_true, ot (show Rt x from ⟨h1, h2, h3, h4⟩)]
        · simp only [tree_Right, inside13, Option.bind_some, decide_eq_true h1, decide_eq_true h2, decide_eq_true h3, decide_eq_false h4, cond_true, of_ (show ¬ Rt x from fun h => h4 h.2.2.2)]
      · simp only [tree_Right, inside13, Option.bind_some, decide_eq_true h1, decide_eq_true h2, decide_eq_false h3, cond_true, cond_false, of_ (show ¬ Rt x from fun h => h3 h.2.2.1)]
    · simp only [tree_Right, inside13, Option.bind_some, decide_eq_true h1, decide_eq_false h2, cond_true, cond_false, of_ (show ¬ Rt x from fun h => h2 h.2.1)]
  · simp only [tree_Right, inside13, Option.bind_some, decide_eq_false h1, cond_false, of_ (show ¬ Rt x from fun h => h1 h.1)]
theorem refRt13 (x : TR) : jobberref13_RightTrader ((x, ()), ()) = some ((odec (Rt x), ()), ()) := by
  have e1 : odec (x.1 < 8) = odec (x.1 ≤ 7) := by congr 1; exact propext (by omega)
  have e2 : odec (x.2.1 < 16) = odec (x.2.1 ≤ 15) := by congr 1; exact propext (by omega)
  have e3 : odec (x.2.2.1 < 16) = odec (x.2.2.1 ≤ 15) := by congr 1; exact propext (by omega)
  have e4 : odec (x.2.2.2.1 < 256) = odec (x.2.2.2.1 ≤ 255) := by congr 1; exact propext (by omega)
  have hr : odec (Rt x) = (odec (x.1 ≥ 0) && odec (x.1 ≤ 7) && odec (x.2.1 ≥ 0) && odec (x.2.1 ≤ 15) && odec (x.2.2.1 ≥ 0) && odec (x.2.2.1 ≤ 15) && odec (x.2.2.2.1 ≥ 0) && odec (x.2.2.2.1 ≤ 255)) := by
    simp only [odec_eq, ← Bool.decide_and, Rt]
    apply decide_eq_decide.2
    constructor
    · rintro ⟨⟨a, b⟩, ⟨c, d⟩, ⟨e, f⟩, g, h⟩; exact ⟨⟨⟨⟨⟨⟨⟨a, b⟩, c⟩, d⟩, e⟩, f⟩, g⟩, h⟩
    · rintro ⟨⟨⟨⟨⟨⟨⟨a, b⟩, c⟩, d⟩, e⟩, f⟩, g⟩, h⟩; exact ⟨⟨a, b⟩, ⟨c, d⟩, ⟨e, f⟩, g, h⟩
  simp only [jobberref13_RightTrader, e1, e2, e3, e4, hr]
  cases odec (x.1 ≥ 0) <;> cases odec (x.1 ≤ 7) <;> cases odec (x.2.1 ≥ 0) <;> cases odec (x.2.1 ≤ 15) <;> cases odec (x.2.2.1 ≥ 0) <;> cases odec (x.2.2.1 ≤ 15) <;> cases odec (x.2.2.2.1 ≥ 0) <;> cases odec (x.2.2.2.1 ≤ 255) <;> rfl
/-- is a trader the empty one? -/
noncomputable def isZ (x : TR) : Bool := (intEq x.1 0) && ((intEq x.2.1 0) && ((intEq x.2.2.1 0) && ((intEq x.2.2.2.1 0) && ((boolEq x.2.2.2.2.1 false) && (((x.2.2.2.2.2.1.zip (List.replicate 32 (0 : Int))).all fun p => teq (.int .u8) p.1 p.2) && true)))))
noncomputable def badT (x : TR) : Bool := !isZ x && !(odec (Rt x) && !odec (x.2.2.1 = 0))
/-- no bad one ahead of a place -/
def Fine13 (T : List TR) (k : Int) : Prop := ∀ j, 0 ≤ j → j < k → badT (tr T j) = false
theorem new13 (T : List TR) (hT : T.length = 32) : (∃ i, 0 ≤ i ∧ i ≤ 31 ∧ Fine13 T i ∧ badT (tr T i) = true ∧ tree_New ((T, ()), ()) = some (.inl (((), i, ()), ()))) ∨ (Fine13 T 32 ∧ tree_New ((T, ()), ()) = some (.inr (((), (-1), ()), ((T, ()), ())))) := by
  have key := loop_ind (b := tree_New_l2) (fun d => ∃ i : Int, d = (((), T, i, ()), (T, ())) ∧ 0 ≤ i ∧ i ≤ 32 ∧ Fine13 T i) (fun r => (r = .inr (((), ()), (T, ())) ∧ Fine13 T 32) ∨ ∃ i, r = .inl (((), i, ()), (T, ())) ∧ 0 ≤ i ∧ i ≤ 31 ∧ Fine13 T i ∧ badT (tr T i) = true) (fun d => (32 - d.1.2.2.1).toNat) (by
    rintro d ⟨i, rfl, i0, i1, hf⟩
    by_cases hi : i < 32
    · have ex := tr_len hT i0 (by omega)
      have e1 : wr .i64 (i + 1) = i + 1 := wr64 (by omega) (by omega)
      have hb : (0 : Int) ≤ i ∧ i < (32 : Nat) := ⟨i0, by omega⟩
      have go : ∀ {P : Prop}, badT (tr T i) = false → tree_New_l2 (((), T, i, ()), (T, ())) = some (.inl (((), T, i + 1, ()), (T, ()))) → P ∨ ∃ l', tree_New_l2 (((), T, i, ()), (T, ())) = some (.inl l') ∧ (∃ i : Int, l' = (((), T, i, ()), (T, ())) ∧ 0 ≤ i ∧ i ≤ 32 ∧ Fine13 T i) ∧ (32 - l'.1.2.2.1).toNat < (32 - i).toNat := fun hn e =>
        .inr ⟨_, e, ⟨_, rfl, by omega, by omega, fun j j0 j1 => by
          by_cases hj : j = i
          · rw [hj]; exact hn
          · exact hf j j0 (by omega)⟩, by simp only; omega⟩
      have no : badT (tr T i) = true → tree_New_l2 (((), T, i, ()), (T, ())) = some (.inr (.inl (((), i, ()), (T, ())))) → (∃ r, tree_New_l2 (((), T, i, ()), (T, ())) = some (.inr r) ∧ ((r = .inr (((), ()), (T, ())) ∧ Fine13 T 32) ∨ ∃ i, r = .inl (((), i, ()), (T, ())) ∧ 0 ≤ i ∧ i ≤ 31 ∧ Fine13 T i ∧ badT (tr T i) = true)) := fun hn e =>
        ⟨_, e, .inr ⟨i, rfl, i0, by omega, hf, hn⟩⟩
      have st : tree_New_l2 (((), T, i, ()), (T, ())) = bif !isZ (tr T i) then (bif !odec (Rt (tr T i)) then some (.inr (.inl (((), i, ()), (T, ())))) else bif odec ((tr T i).2.2.1 = 0) then some (.inr (.inl (((), i, ()), (T, ())))) else some (.inl (((), T, i + 1, ()), (T, ())))) else some (.inl (((), T, i + 1, ()), (T, ()))) := by
        simp only [tree_New_l2, ot hi, cond_true, ot hb, ex, Option.bind_some, e1, trEta, rt13, isZ]
      cases hz : isZ (tr T i) with
      | true => exact go (by rw [badT, hz]; rfl) (by rw [st, hz]; simp only [Bool.not_true, Bool.not_false, cond_true, cond_false])
      | false =>
        cases hr : odec (Rt (tr T i)) with
        | false => exact .inl (no (by rw [badT, hz, hr]; rfl) (by rw [st, hz, hr]; simp only [Bool.not_true, Bool.not_false, cond_true, cond_false]))
        | true =>
          cases ho : odec ((tr T i).2.2.1 = 0) with
          | true => exact .inl (no (by rw [badT, hz, hr, ho]; rfl) (by rw [st, hz, hr, ho]; simp only [Bool.not_true, Bool.not_false, cond_true, cond_false]))
          | false => exact go (by rw [badT, hz, hr, ho]; rfl) (by rw [st, hz, hr, ho]; simp only [Bool.not_true, Bool.not_false, cond_true, cond_false])
    · left
      exact ⟨_, by simp only [tree_New_l2, of_ hi, cond_false], .inl ⟨rfl, fun j j0 j1 => hf j j0 (by omega)⟩⟩)
  obtain ⟨r, hr, q⟩ := key (((), T, 0, ()), (T, ())) ⟨0, rfl, by omega, by omega, fun j j0 j1 => by omega⟩
  rcases q with ⟨rfl, q⟩ | ⟨i, rfl, q1, q2, q3, q4⟩
  · exact .inr ⟨q, by simp only [tree_New, hr, Option.bind_some]⟩
  · exact .inl ⟨i, q1, q2, q3, q4, by simp only [tree_New, hr, Option.bind_some]⟩
theorem refNew13 (T : List TR) (hT : T.length = 32) : (∃ i, 0 ≤ i ∧ i ≤ 31 ∧ Fine13 T i ∧ badT (tr T i) = true ∧ jobberref13_NewTree ((T, ()), ()) = some (.inl (((), i, ()), ()))) ∨ (Fine13 T 32 ∧ jobberref13_NewTree ((T, ()), ()) = some (.inr (((), (-1), ()), ((T, ()), ())))) := by
  have key := loop_ind (b := jobberref13_NewTree_l2) (fun d => ∃ i : Int, d = (((), T, i, ()), (T, ())) ∧ 0 ≤ i ∧ i ≤ 32 ∧ Fine13 T i) (fun r => (r = .inr (((), ()), (T, ())) ∧ Fine13 T 32) ∨ ∃ i, r = .inl (((), i, ()), (T, ())) ∧ 0 ≤ i ∧ i ≤ 31 ∧ Fine13 T i ∧ badT (tr T i) = true) (fun d => (32 - d.1.2.2.1).toNat) (by
    rintro d ⟨i, rfl, i0, i1, hf⟩
    by_cases hi : i < 32
    · have ex := tr_len hT i0 (by omega)
      have e1 : wr .i64 (i + 1) = i + 1 := wr64 (by omega) (by omega)
      have hb : (0 : Int) ≤ i ∧ i < (32 : Nat) := ⟨i0, by omega⟩
      have go : ∀ {P : Prop}, badT (tr T i) = false → jobberref13_NewTree_l2 (((), T, i, ()), (T, ())) = some (.inl (((), T, i + 1, ()), (T, ()))) → P ∨ ∃ l', jobberref13_NewTree_l2 (((), T, i, ()), (T, ())) = some (.inl l') ∧ (∃ i : Int, l' = (((), T, i, ()), (T, ())) ∧ 0 ≤ i ∧ i ≤ 32 ∧ Fine13 T i) ∧ (32 - l'.1.2.2.1).toNat < (32 - i).toNat := fun hn e =>
        .inr ⟨_, e, ⟨_, rfl, by omega, by omega, fun j j0 j1 => by
          by_cases hj : j = i
          · rw [hj]; exact hn
          · exact hf j j0 (by omega)⟩, by simp only; omega⟩
      have no : badT (tr T i) = true → jobberref13_NewTree_l2 (((), T, i, ()), (T, ())) = some (.inr (.inl (((), i, ()), (T, ())))) → (∃ r, jobberref13_NewTree_l2 (((), T, i, ()), (T, ())) = some (.inr r) ∧ ((r = .inr (((), ()), (T, ())) ∧ Fine13 T 32) ∨ ∃ i, r = .inl (((), i, ()), (T, ())) ∧ 0 ≤ i ∧ i ≤ 31 ∧ Fine13 T i ∧ badT (tr T i) = true)) := fun hn e =>
        ⟨_, e, .inr ⟨i, rfl, i0, by omega, hf, hn⟩⟩
      have st : jobberref13_NewTree_l2 (((), T, i, ()), (T, ())) = bif isZ (tr T i) then some (.inl (((), T, i + 1, ()), (T, ()))) else (bif !odec (Rt (tr T i)) then some (.inr (.inl (((), i, ()), (T, ())))) else bif odec ((tr T i).2.2.1 = 0) then some (.inr (.inl (((), i, ()), (T, ())))) else some (.inl (((), T, i + 1, ()), (T, ())))) := by
        simp only [jobberref13_NewTree_l2, ot hi, cond_true, ot hb, ex, Option.bind_some, e1, trEta, refRt13, isZ]
      cases hz : isZ (tr T i) with
      | true => exact go (by rw [badT, hz]; rfl) (by rw [st, hz]; simp only [Bool.not_true, Bool.not_false, cond_true, cond_false])
      | false =>
        cases hr : odec (Rt (tr T i)) with
        | false => exact .inl (no (by rw [badT, hz, hr]; rfl) (by rw [st, hz, hr]; simp only [Bool.not_true, Bool.not_false, cond_true, cond_false]))
        | true =>
          cases ho : odec ((tr T i).2.2.1 = 0) with
          | true => exact .inl (no (by rw [badT, hz, hr, ho]; rfl) (by rw [st, hz, hr, ho]; simp only [Bool.not_true, Bool.not_false, cond_true, cond_false]))
          | false => exact go (by rw [badT, hz, hr, ho]; rfl) (by rw [st, hz, hr, ho]; simp only [Bool.not_true, Bool.not_false, cond_true, cond_false])
    · left
      exact ⟨_, by simp only [jobberref13_NewTree_l2, of_ hi, cond_false], .inl ⟨rfl, fun j j0 j1 => hf j j0 (by omega)⟩⟩)
  obtain ⟨r, hr, q⟩ := key (((), T, 0, ()), (T, ())) ⟨0, rfl, by omega, by omega, fun j j0 j1 => by omega⟩
  rcases q with ⟨rfl, q⟩ | ⟨i, rfl, q1, q2, q3, q4⟩
  · exact .inr ⟨q, by simp only [jobberref13_NewTree, hr, Option.bind_some]⟩
  · exact .inl ⟨i, q1, q2, q3, q4, by simp only [jobberref13_NewTree, hr, Option.bind_some]⟩
/-- bits of numbers -/
noncomputable def bitsI (P : Nat → Bool) : Nat → Int
  | 0 => 0
  | k+1 => bif P k then bor .u64 (bitsI P k) (shl .u64 1 k) else bitsI P k
def bitsN (P : Nat → Bool) : Nat → Nat
  | 0 => 0
  | k+1 => bif P k then bitsN P k ||| 2 ^ k else bitsN P k
theorem bitsN_bit (P : Nat → Bool) (i : Nat) : ∀ k, (bitsN P k).testBit i = (decide (i < k) && P i)
  | 0 => by simp [bitsN]
  | k+1 => by
    have ih := bitsN_bit P i k
    simp only [bitsN]
    by_cases e : i = k
    · subst e
      cases hp : P i <;> simp [ih, hp]
    · have h2 : (2 ^ k).testBit i = false := by rw [Nat.testBit_two_pow]; simp; omega
      have h3 : decide (i < k + 1) = decide (i < k) := decide_eq_decide.2 (by omega)
      cases P k <;> simp only [cond_true, cond_false, Nat.testBit_or, ih, h2, h3, Bool.or_false]
theorem bitsN_lt (P : Nat → Bool) (k : Nat) : bitsN P k < 2 ^ k := by
  apply Nat.lt_pow_two_of_testBit
  intro i hi
  rw [bitsN_bit, decide_eq_false (by omega), Bool.false_and]
theorem wru64b {n : Int} (h0 : 0 ≤ n) (h1 : n ≤ 18446744073709551615) : wr .u64 n = n := by
  rw [wr_eq]
  have : IntKind.wrap .u64 n = n := by
    simp only [IntKind.wrap, IntKind.signed, IntKind.bits]
    simp
    omega
  exact this
theorem u64Nat {a : Nat} (h : a < 2 ^ 64) : (BitVec.ofInt IntKind.u64.bits (a : Int)).toNat = a := by
  rw [show IntKind.u64.bits = 64 from rfl, BitVec.toNat_ofInt]; omega
theorem bor64 {a b : Nat} (ha : a < 2 ^ 64) (hb : b < 2 ^ 64) : bor .u64 (a : Int) (b : Int) = ((a ||| b : Nat) : Int) := by
  have := Nat.or_lt_two_pow ha hb
  rw [bor, BitVec.toNat_or, u64Nat ha, u64Nat hb, wru64b (by omega) (by omega)]
theorem band64 {a b : Nat} (ha : a < 2 ^ 64) (hb : b < 2 ^ 64) : band .u64 (a : Int) (b : Int) = ((a &&& b : Nat) : Int) := by
  have := Nat.and_lt_two_pow a hb
  rw [band, BitVec.toNat_and, u64Nat ha, u64Nat hb, wru64b (by omega) (by omega)]
theorem shl64 {k : Nat} (h : k ≤ 63) : shl .u64 1 (k : Int) = ((2 ^ k : Nat) : Int) := by
  have h2 : 2 ^ k ≤ 2 ^ 63 := Nat.pow_le_pow_right (by omega) h
  have e : min (k : Int).toNat IntKind.u64.bits = k := by rw [show IntKind.u64.bits = 64 from rfl, Int.toNat_natCast]; omega
  have e2 : (2 : Int) ^ k = ((2 ^ k : Nat) : Int) := by rw [Int.natCast_pow]; rfl
  rw [shl, e, Int.one_mul, e2]
  generalize 2 ^ k = m at h2
  rw [wru64b (by omega) (by omega)]
theorem shr64 {a : Nat} {k : Nat} (h : k ≤ 63) : shr .u64 (a : Int) (k : Int) = ((a >>> k : Nat) : Int) := by
  have e : min (k : Int).toNat IntKind.u64.bits = k := by rw [show IntKind.u64.bits = 64 from rfl, Int.toNat_natCast]; omega
  have e2 : (2 : Int) ^ k = ((2 ^ k : Nat) : Int) := by rw [Int.natCast_pow]; rfl
  rw [shr_eq, e, e2, Nat.shiftRight_eq_div_pow, Int.natCast_ediv, Int.fdiv_eq_ediv_of_nonneg _ (Int.natCast_nonneg _)]
theorem bitsI_eq (P : Nat → Bool) : ∀ k, k ≤ 63 → bitsI P k = (bitsN P k : Int)
  | 0, _ => rfl
  | k+1, h => by
    have h1 := bitsN_lt P k
    have h2 : 2 ^ k ≤ 2 ^ 63 := Nat.pow_le_pow_right (by omega) (by omega)
    simp only [bitsI, bitsN]
    rw [bitsI_eq P k (by omega), shl64 (by omega), bor64 (by omega) (by omega)]
    cases P k <;> rfl
theorem isZ_roles {x : TR} (h : isZ x = true) : x.2.2.1 = 0 := by
  simp only [isZ, Bool.and_eq_true] at h
  exact odec_iff.1 h.2.2.1
theorem fineOk {T : List TR} (hT : T.length = 32) (h : Fine13 T 32) : OkTree T := by
  refine ⟨hT, fun x hx => ?_⟩
  obtain ⟨i, hi, e⟩ := List.mem_iff_getElem.1 hx
  have hb := h i (by omega) (by omega)
  have e2 : tr T i = x := by simp [tr, List.getD_eq_getElem?_getD, List.getElem?_eq_getElem hi, e]
  rw [e2] at hb
  cases hz : isZ x with
  | true => exact .inl (isZ_roles hz)
  | false =>
    rw [badT, hz] at hb
    simp only [Bool.not_false, Bool.true_and, Bool.not_eq_false', Bool.and_eq_true] at hb
    obtain ⟨⟨a, b⟩, ⟨c, d⟩, ⟨e, f⟩, g, k⟩ := odec_iff.1 hb.1
    by_cases h0 : x.2.2.1 = 0
    · exact .inl h0
    · exact .inr ⟨a, b, c, d, by omega, f, g, k⟩
theorem badZ : badT Z = false := by
  have : isZ Z = true := by simp only [isZ, Z, intEq_self, boolEq, beq_self_eq_true, teqs_self, Bool.and_self]
  rw [badT, this]; rfl
theorem badLive {x : TR} (h : Live x) : badT x = false := by
  obtain ⟨a, b, c, d, e, f, g, k⟩ := h
  rw [badT, ot (show Rt x from ⟨⟨a, b⟩, ⟨c, d⟩, ⟨by omega, f⟩, g, k⟩), of_ (show ¬ x.2.2.1 = 0 by omega)]
  cases isZ x <;> rfl
theorem zedFine {T : List TR} (h : Zed T) : Fine13 T 32 := fun j j0 j1 => by
  rcases h.2 _ (List.mem_of_getElem? (tr_len h.1 j0 (by omega))) with e | e
  · rw [e]; exact badZ
  · exact badLive e
theorem newZed {T : List TR} (h : Zed T) : tree_New ((T, ()), ()) = some (.inr (((), (-1), ()), ((T, ()), ()))) := by
  rcases new13 T h.1 with ⟨i, a, b, c, d, e⟩ | ⟨a, b⟩
  · rw [zedFine h i a (by omega)] at d; cases d
  · exact b
/-- is a trader of the scope? -/
noncomputable def inS (x y : TR) (i n s : Int) : Bool := bif odec (s = 1) then odec (i = n) else bif odec (s = 2) then (odec (y.1 = x.1) && odec (y.2.1 = x.2.1)) else bif odec (s = 3) then odec (y.1 = x.1) else false
noncomputable def PT (T : List TR) (n s : Int) (k : Nat) : Bool := inS (tr T n) (tr T k) k n s && (there T k && there T n)
theorem set_l4 {T : List TR} (hT : OkTree T) (n s b : Int) (x : TR) (hx : there T n = true → x = tr T n) (k : Nat) (hk : k < 32) : tree_Tree_Set_l4 (((), n, s, (), b, T, (k : Int), ()), ((T, ()), x, ())) = some (.inl (((), n, s, (), (bif PT T n s k then bor .u64 b (shl .u64 1 k) else b), T, ((k + 1 : Nat) : Int), ()), ((T, ()), x, ()))) := by
  have e1 : wr .i64 ((k : Int) + 1) = ((k + 1 : Nat) : Int) := by rw [wr64 (by omega) (by omega)]; omega
  have w := wru64b (n := (k : Int)) (by omega) (by omega)
  have ex := tr_get hT (n := (k : Int)) (by omega) (by omega)
  simp only [tree_Tree_Set_l4, ot (show (k : Int) < 32 by omega), ot (show (0 : Int) ≤ (k : Int) ∧ (k : Int) < (32 : Nat) by omega), cond_true, ex, Option.bind_some, there13 hT, w, of_ (show ¬ (k : Int) < 0 by omega), cond_false, e1, trEta, PT, inS]
  cases ht : there T n with
  | false =>
    generalize odec (s = 1) = s1
    generalize odec (s = 2) = s2
    generalize odec (s = 3) = s3
    generalize odec ((k : Int) = n) = a
    generalize odec ((tr T k).1 = x.1) = f
    generalize odec ((tr T k).2.1 = x.2.1) = g
    cases s1 <;> cases s2 <;> cases s3 <;> cases a <;> cases f <;> cases g <;> cases there T k <;> simp
  | true =>
    rw [hx ht]
    generalize odec (s = 1) = s1
    generalize odec (s = 2) = s2
    generalize odec (s = 3) = s3
    generalize odec ((k : Int) = n) = a
    generalize odec ((tr T k).1 = (tr T n).1) = f
    generalize odec ((tr T k).2.1 = (tr T n).2.1) = g
    cases s1 <;> cases s2 <;> cases s3 <;> cases a <;> cases f <;> cases g <;> cases there T k <;> rfl
theorem set13 {T : List TR} (hT : OkTree T) (n s : Int) : tree_Tree_Set (((), n, s, ()), ((T, ()), ())) = some ((((bitsN (PT T n s) 32 : Nat) : Int), ()), ((T, ()), ())) := by
  have hx : there T n = true → (bif there T n then tr T n else Z) = tr T n := fun h => by rw [h]; rfl
  generalize hx' : (bif there T n then tr T n else Z) = x at hx
  have key := loop_ind (b := tree_Tree_Set_l4) (fun d => ∃ k : Nat, d = (((), n, s, (), bitsI (PT T n s) k, T, (k : Int), ()), ((T, ()), x, ())) ∧ k ≤ 32) (fun r => r = ((bitsI (PT T n s) 32, ()), ((T, ()), x, ()))) (fun d => (32 - d.1.2.2.2.2.2.2.1).toNat) (by
    rintro d ⟨k, rfl, hk⟩
    by_cases h : k < 32
    · right
      exact ⟨_, set_l4 hT n s _ x hx k h, ⟨k + 1, rfl, h⟩, by simp only; omega⟩
    · left
      have e : k = 32 := by omega
      subst e
      exact ⟨_, by simp only [tree_Tree_Set_l4, of_ (show ¬ ((32 : Nat) : Int) < 32 by omega), cond_false, trEta], rfl⟩)
  obtain ⟨r, hr, rfl⟩ := key (((), n, s, (), 0, T, 0, ()), ((T, ()), x, ())) ⟨0, rfl, by omega⟩
  simp only [tree_Tree_Set, trader13 hT, Option.bind_some, hx', trEta, hr]
  rw [bitsI_eq _ _ (by omega)]
theorem bitsN_ext {P Q : Nat → Bool} : ∀ k, (∀ i, i < k → P i = Q i) → bitsN P k = bitsN Q k
  | 0, _ => rfl
  | k+1, h => by simp only [bitsN, h k (by omega), bitsN_ext k (fun i hi => h i (by omega))]
noncomputable def PR (T : List TR) (n s : Int) (k : Nat) : Bool := !odec ((tr T k).2.2.1 = 0) && (odec ((k : Int) = n) || (bif odec (s = 3) then bif odec ((tr T k).1 = (tr T n).1) then true else (odec (s = 2) && (odec ((tr T k).1 = (tr T n).1) && odec ((tr T k).2.1 = (tr T n).2.1))) else (odec (s = 2) && (odec ((tr T k).1 = (tr T n).1) && odec ((tr T k).2.1 = (tr T n).2.1)))))
theorem refSet_l5 {T : List TR} (hT : OkTree T) (n s b : Int) (hn : 0 ≤ n ∧ n ≤ 31) (k : Nat) (hk : k < 32) : jobberref13_Tree_Set_l5 (((), n, s, b, T, (k : Int), ()), ((T, ()), ())) = some (.inl (((), n, s, (bif PR T n s k then bor .u64 b (shl .u64 1 k) else b), T, ((k + 1 : Nat) : Int), ()), ((T, ()), ()))) := by
  have e1 : wr .i64 ((k : Int) + 1) = ((k + 1 : Nat) : Int) := by rw [wr64 (by omega) (by omega)]; omega
  have ex := tr_get hT (n := (k : Int)) (by omega) (by omega)
  have en := tr_get hT hn.1 hn.2
  simp only [jobberref13_Tree_Set_l5, ot (show (k : Int) < 32 by omega), ot (show (0 : Int) ≤ (k : Int) ∧ (k : Int) < (32 : Nat) by omega), ot (show (0 : Int) ≤ n ∧ n < (32 : Nat) by omega), cond_true, ex, en, Option.bind_some, of_ (show ¬ (k : Int) < 0 by omega), cond_false, e1, PR]
  generalize odec (s = 2) = s2
  generalize odec (s = 3) = s3
  generalize odec ((k : Int) = n) = a
  generalize odec ((tr T k).1 = (tr T n).1) = f
  generalize odec ((tr T k).2.1 = (tr T n).2.1) = g
  generalize odec ((tr T k).2.2.1 = 0) = h
  cases h <;> cases s2 <;> cases s3 <;> cases a <;> cases f <;> cases g <;> rfl
theorem PR_PT {T : List TR} (n s : Int) (hn : there T n = true) (hs : 1 ≤ s ∧ s ≤ 3) (k : Nat) (hk : k < 32) : PR T n s k = PT T n s k := by
  have hthere : there T k = !odec ((tr T k).2.2.1 = 0) := by rw [there, ot (show 0 ≤ (k : Int) ∧ (k : Int) ≤ 31 by omega), cond_true]
  rw [PR, PT, inS, hthere, hn]
  have h3 : s = 1 ∨ s = 2 ∨ s = 3 := by omega
  generalize odec ((tr T k).2.2.1 = 0) = w
  by_cases e : (k : Int) = n
  · subst e
    rw [ot (show (k : Int) = k from rfl), ot (show (tr T k).1 = (tr T k).1 from rfl), ot (show (tr T k).2.1 = (tr T k).2.1 from rfl)]
    rcases h3 with h | h | h
    · rw [ot h]; cases w <;> simp
    · rw [ot h]; cases odec (s = 1) <;> cases w <;> simp
    · rw [ot h]; cases odec (s = 1) <;> cases odec (s = 2) <;> cases w <;> simp
  · rw [of_ e]
    generalize odec ((tr T k).1 = (tr T n).1) = f
    generalize odec ((tr T k).2.1 = (tr T n).2.1) = g
    rcases h3 with h | h | h
    · rw [ot h, of_ (show ¬ s = 3 by omega), of_ (show ¬ s = 2 by omega)]; cases w <;> simp
    · rw [ot h, of_ (show ¬ s = 1 by omega), of_ (show ¬ s = 3 by omega)]; cases w <;> cases f <;> cases g <;> rfl
    · rw [ot h, of_ (show ¬ s = 1 by omega), of_ (show ¬ s = 2 by omega)]; cases w <;> cases f <;> cases g <;> rfl
theorem refSet13 {T : List TR} (hT : OkTree T) (n s : Int) : jobberref13_Tree_Set (((), n, s, ()), ((T, ()), ())) = some ((((bitsN (PT T n s) 32 : Nat) : Int), ()), ((T, ()), ())) := by
  have zero : (∀ k, PT T n s k = false) → bitsN (PT T n s) 32 = 0 := fun h => (bitsN_ext (Q := fun _ => false) 32 (fun i _ => h i)).trans (by decide)
  simp only [jobberref13_Tree_Set, refThere13 hT, Option.bind_some]
  cases ht : there T n with
  | false =>
    rw [zero (fun k => by rw [PT, ht, Bool.and_false, Bool.and_false])]
    rfl
  | true =>
    simp only [Bool.not_true, cond_false]
    by_cases h1 : s < 1
    · rw [zero (fun k => by rw [PT, inS, of_ (show ¬ s = 1 by omega), of_ (show ¬ s = 2 by omega), of_ (show ¬ s = 3 by omega)]; rfl), ot h1]
      rfl
    · by_cases h3 : s > 3
      · rw [zero (fun k => by rw [PT, inS, of_ (show ¬ s = 1 by omega), of_ (show ¬ s = 2 by omega), of_ (show ¬ s = 3 by omega)]; rfl), of_ h1, ot h3]
        rfl
      · have hn := there_in ht
        have key := loop_ind (b := jobberref13_Tree_Set_l5) (fun d => ∃ k : Nat, d = (((), n, s, bitsI (PR T n s) k, T, (k : Int), ()), ((T, ()), ())) ∧ k ≤ 32) (fun r => r = ((bitsI (PR T n s) 32, ()), ((T, ()), ()))) (fun d => (32 - d.1.2.2.2.2.2.1).toNat) (by
          rintro d ⟨k, rfl, hk⟩
          by_cases h : k < 32
          · right
            exact ⟨_, refSet_l5 hT n s _ hn k h, ⟨k + 1, rfl, h⟩, by simp only; omega⟩
          · left
            have e : k = 32 := by omega
            subst e
            exact ⟨_, by simp only [jobberref13_Tree_Set_l5, of_ (show ¬ ((32 : Nat) : Int) < 32 by omega), cond_false], rfl⟩)
        obtain ⟨r, hr, rfl⟩ := key (((), n, s, 0, T, 0, ()), ((T, ()), ())) ⟨0, rfl, by omega⟩
        simp only [of_ h1, of_ h3, cond_false, hr, Option.bind_some]
        rw [bitsI_eq _ _ (by omega), bitsN_ext 32 (fun i hi => PR_PT n s ht ⟨by omega, by omega⟩ i hi)]
abbrev tAsk : Ty := .cons (.int .i64) (.cons (.int .i64) (.cons (.int .i64) (.cons (.int .i64) (.cons (.int .i64) .nil))))
abbrev tTR : Ty := .cons (.int .i64) (.cons (.int .i64) (.cons (.int .i64) (.cons (.int .i64) (.cons .bool (.cons (.arr 32 (.int .u8)) .nil)))))
theorem some13 (l : List (Int × Int × Int × Int × Int × Unit)) (hl : Rng (.deep tAsk) l) (pl : Int) (raw : TR) : ∃ W, Zed W ∧ jobberlaw13_some ((l, pl, raw, ()), ()) = some (((bif odec (pl ≥ 0) then bif odec (pl < 32) then W.set pl.toNat raw else W else W), ()), ()) := by
  have hq : ∀ x ∈ l, Rng tAsk x := hl.2
  have key := loop_ind (b := jobberlaw13_some_l3) (fun d => ∃ i A W, d = ((l, pl, (), (), (), i, ()), (raw, A, W, ())) ∧ 0 ≤ i ∧ i ≤ 40 ∧ Zed W) (fun r => ∃ A W, r = ((pl, (), (), (), ()), (raw, A, W, ())) ∧ Zed W) (fun d => (40 - d.1.2.2.2.2.2.1).toNat) (by
    rintro d ⟨i, A, W, rfl, i0, i1, hW⟩
    by_cases hi : i < (l.length : Int)
    · by_cases h40 : i < 40
      · obtain ⟨x, ex, hx⟩ := get_int i0 hi
        obtain ⟨q1, q2, q3, q4, q5, _⟩ := hq x hx
        obtain ⟨n, n0, n1, en⟩ := within13 (rng64 q1) (lo := 0) (hi := 31) (by omega) (by omega) (by omega) (by omega)
        obtain ⟨f, f0, f1, ef⟩ := within13 (rng64 q2) (lo := 0) (hi := 3) (by omega) (by omega) (by omega) (by omega)
        obtain ⟨k, k0, k1, ek⟩ := within13 (rng64 q3) (lo := 0) (hi := 2) (by omega) (by omega) (by omega) (by omega)
        obtain ⟨r, r0, r1, er⟩ := within13 (rng64 q4) (lo := 1) (hi := 15) (by omega) (by omega) (by omega) (by omega)
        obtain ⟨s, s0, s1, es⟩ := within13 (rng64 q5) (lo := 0) (hi := 255) (by omega) (by omega) (by omega) (by omega)
        have e1 : wr .i64 (i + 1) = i + 1 := wr64 (by omega) (by omega)
        right
        refine ⟨((l, pl, (), (), (), i + 1, ()), (raw, A, W.set n.toNat (f, k, r, s, false, List.replicate 32 (0 : Int), ()), ())), ?_, ⟨_, _, _, rfl, by omega, by omega, ?_⟩, by simp only; omega⟩
        · simp only [jobberlaw13_some_l3, ot hi, ot h40, ot i0, cond_true, ex, Option.bind_some, en, ef, ek, er, es, ot (show 0 ≤ n ∧ n < (32 : Nat) by omega), tr_get hW.ok n0 n1, e1, trEta]
        · exact zedSet hW _ (.inr ⟨by simp only; omega, by simp only; omega, by simp only; omega, by simp only; omega, by simp only; omega, by simp only; omega, by simp only; omega, by simp only; omega⟩)
      · left
        exact ⟨_, by simp only [jobberlaw13_some_l3, ot hi, of_ h40, cond_true, cond_false, trEta], A, W, rfl, hW⟩
    · left
      exact ⟨_, by simp only [jobberlaw13_some_l3, of_ hi, cond_false, trEta], A, W, rfl, hW⟩)
  obtain ⟨r, hr, A, W, rfl, hW⟩ := key ((l, pl, (), (), (), 0, ()), (raw, List.replicate 32 Z, List.replicate 32 Z, ())) ⟨0, _, _, rfl, by omega, by omega, by simp, fun x hx => .inl (List.eq_of_mem_replicate hx)⟩
  refine ⟨W, hW, ?_⟩
  rw [Z] at hr
  simp only [jobberlaw13_some, trEta, hr, Option.bind_some]
  by_cases h0 : pl ≥ 0
  · by_cases h1 : pl < 32
    · simp only [ot h0, ot h1, cond_true, ot (show 0 ≤ pl ∧ pl < (32 : Nat) by omega), tr_get hW.ok h0 (show pl ≤ 31 by omega), Option.bind_some]
    · simp only [ot h0, of_ h1, cond_true, cond_false]
  · simp only [of_ h0, cond_false]
theorem bitsN_zero {P : Nat → Bool} (h : ∀ k, k < 32 → P k = false) : bitsN P 32 = 0 := (bitsN_ext (Q := fun _ => false) 32 h).trans (by decide)
theorem setEq {β : Type} {l : List β} {n : Nat} {x : β} : (l.set n x).length = l.length := List.length_set
theorem jobberlaw13_TreeRuns.law : jobberlaw13_TreeRuns ((), ()) = some ((true, ()), ()) := by
  let A : TR := (1, 0, 1, 0, false, (List.replicate 32 (0 : Int)), ())
  let C : TR := (1, 1, 1, 0, false, (List.replicate 32 (0 : Int)), ())
  have hA : Live A := ⟨by simp only [A]; omega, by simp only [A]; omega, by simp only [A]; omega, by simp only [A]; omega, by simp only [A]; omega, by simp only [A]; omega, by simp only [A]; omega, by simp only [A]; omega⟩
  have hC : Live C := ⟨by simp only [C]; omega, by simp only [C]; omega, by simp only [C]; omega, by simp only [C]; omega, by simp only [C]; omega, by simp only [C]; omega, by simp only [C]; omega, by simp only [C]; omega⟩
  have z0 : Zed (List.replicate 32 Z) := ⟨by simp, fun x hx => .inl (List.eq_of_mem_replicate hx)⟩
  have z1 := zedSet z0 (n := 0) A (.inr hA)
  have z2 := zedSet z1 (n := 1) A (.inr hA)
  have z3 := zedSet z2 (n := 2) C (.inr hC)
  have t0 : ∀ m : Int, 0 ≤ m → m ≤ 31 → tr (List.replicate 32 Z) m = Z := fun m m0 m1 => by
    have h : m.toNat < 32 := by omega
    rw [tr, List.getD_eq_getElem?_getD, List.getElem?_replicate, if_pos h]; rfl
  have ht : ∀ m : Int, 0 ≤ m → m ≤ 31 → tr ((((List.replicate 32 Z).set (0 : Int).toNat A).set (1 : Int).toNat A).set (2 : Int).toNat C) m = if m = 2 then C else if m = 1 then A else if m = 0 then A else Z := fun m m0 m1 => by
    rw [tr_set z2.ok (by omega) (by omega) m0 m1, tr_set z1.ok (by omega) (by omega) m0 m1, tr_set z0.ok (by omega) (by omega) m0 m1, t0 m m0 m1]
  generalize hT : ((((List.replicate 32 Z).set (0 : Int).toNat A).set (1 : Int).toNat A).set (2 : Int).toNat C) = T at ht z3
  have hth : ∀ m : Int, 0 ≤ m → m ≤ 31 → there T m = decide (m ≤ 2) := fun m m0 m1 => by
    rw [there, ot (show 0 ≤ m ∧ m ≤ 31 from ⟨m0, m1⟩), cond_true, ht m m0 m1]
    by_cases e2 : m = 2
    · subst e2; simp [C, odec_eq]
    · rw [if_neg e2]
      by_cases e1 : m = 1
      · subst e1; simp [A, odec_eq]
      · rw [if_neg e1]
        by_cases e0 : m = 0
        · subst e0; simp [A, odec_eq]
        · rw [if_neg e0, decide_eq_false (by omega)]; simp [Z, odec_eq]
  have s2 : bitsN (PT T 0 2) 32 = 3 := by
    rw [bitsN_ext (Q := fun k => decide (k < 2)) 32 (fun k hk => ?_)]
    · decide
    · rw [PT, inS, hth k (by omega) (by omega), hth 0 (by omega) (by omega), ht k (by omega) (by omega), ht 0 (by omega) (by omega)]
      by_cases e2 : (k : Int) = 2
      · have : k = 2 := by omega
        subst this; simp [A, C, odec_eq]
      · rw [if_neg e2]
        by_cases e1 : (k : Int) = 1
        · have : k = 1 := by omega
          subst this; simp [A, odec_eq]
        · rw [if_neg e1]
          by_cases e0 : (k : Int) = 0
          · have : k = 0 := by omega
            subst this; simp [A, odec_eq]
          · rw [if_neg e0, decide_eq_false (show ¬ (k : Int) ≤ 2 by omega), decide_eq_false (show ¬ k < 2 by omega), Bool.false_and, Bool.and_false]
  have s3 : bitsN (PT T 0 3) 32 = 7 := by
    rw [bitsN_ext (Q := fun k => decide (k < 3)) 32 (fun k hk => ?_)]
    · decide
    · rw [PT, inS, hth k (by omega) (by omega), hth 0 (by omega) (by omega), ht k (by omega) (by omega), ht 0 (by omega) (by omega)]
      by_cases e2 : (k : Int) = 2
      · have : k = 2 := by omega
        subst this; simp [A, C, odec_eq]
      · rw [if_neg e2]
        by_cases e1 : (k : Int) = 1
        · have : k = 1 := by omega
          subst this; simp [A, odec_eq]
        · rw [if_neg e1]
          by_cases e0 : (k : Int) = 0
          · have : k = 0 := by omega
            subst this; simp [A, odec_eq]
          · rw [if_neg e0, decide_eq_false (show ¬ (k : Int) ≤ 2 by omega), decide_eq_false (show ¬ k < 3 by omega), Bool.false_and, Bool.and_false]
  have s1 : bitsN (PT T 3 1) 32 = 0 := bitsN_zero (fun k hk => by rw [PT, hth 3 (by omega) (by omega)]; simp)
  have a1 := set13 z3.ok 0 2
  have a2 := set13 z3.ok 0 3
  have a3 := set13 z3.ok 3 1
  have hn := newZed z3
  rw [s2] at a1
  rw [s3] at a2
  rw [s1] at a3
  have g0 := tr_get z0.ok (n := 0) (by omega) (by omega)
  have g1 := tr_get z1.ok (n := 1) (by omega) (by omega)
  have g2 := tr_get z2.ok (n := 2) (by omega) (by omega)
  rw [← hT] at hn a1 a2 a3
  simp only [Z, A, C] at hn a1 a2 a3 g0 g1 g2
  simp only [jobberlaw13_TreeRuns, ot (show 0 ≤ (0 : Int) ∧ (0 : Int) < (32 : Nat) by omega), ot (show 0 ≤ (1 : Int) ∧ (1 : Int) < (32 : Nat) by omega), ot (show 0 ≤ (2 : Int) ∧ (2 : Int) < (32 : Nat) by omega), cond_true, g0, g1, g2, Option.bind_some, hn, a1, a2, a3, ot (show (-1 : Int) = -1 from rfl), ot (show ((3 : Nat) : Int) = 3 from rfl), ot (show ((7 : Nat) : Int) = 7 from rfl), ot (show ((0 : Nat) : Int) = 0 from rfl), odT]
theorem both13 {T : List TR} (hT : T.length = 32) : (∃ i, tree_New ((T, ()), ()) = some (.inl (((), i, ()), ())) ∧ jobberref13_NewTree ((T, ()), ()) = some (.inl (((), i, ()), ()))) ∨ (OkTree T ∧ tree_New ((T, ()), ()) = some (.inr (((), (-1), ()), ((T, ()), ()))) ∧ jobberref13_NewTree ((T, ()), ()) = some (.inr (((), (-1), ()), ((T, ()), ())))) := by
  rcases new13 T hT with ⟨i, i0, i1, i2, i3, i4⟩ | ⟨a, b⟩ <;> rcases refNew13 T hT with ⟨j, j0, j1, j2, j3, j4⟩ | ⟨c, d⟩
  · left
    have : i = j := by
      rcases Int.lt_trichotomy i j with h | h | h
      · rw [j2 i i0 h] at i3; cases i3
      · exact h
      · rw [i2 j j0 h] at j3; cases j3
    subst this
    exact ⟨i, i4, j4⟩
  · rw [c i i0 (by omega)] at i3; cases i3
  · rw [a j j0 (by omega)] at j3; cases j3
  · exact .inr ⟨fineOk hT a, b, d⟩
def flipO (x : TR) (b : Bool) : TR := (x.1, x.2.1, x.2.2.1, x.2.2.2.1, b, x.2.2.2.2.2.1, ())
noncomputable def offT (T : List TR) (n : Int) (b : Bool) : List TR := bif there T n then T.set n.toNat (flipO (tr T n) b) else T
theorem off13 {T : List TR} (h : OkTree T) (n : Int) (b : Bool) : tree_Tree_Off (((), n, b, ()), ((T, ()), ())) = some ((there T n, ()), ((offT T n b, ()), ())) := by
  cases ht : there T n with
  | false => simp only [tree_Tree_Off, there13 h, Option.bind_some, ht, Bool.not_false, cond_true, offT, cond_false]
  | true =>
    obtain ⟨h0, h1⟩ := there_in ht
    simp only [tree_Tree_Off, there13 h, Option.bind_some, ht, Bool.not_true, cond_true, cond_false, ot (show 0 ≤ n ∧ n < (32 : Nat) by omega), tr_get h h0 h1, offT, flipO]
theorem refOff13 {T : List TR} (h : OkTree T) (n : Int) (b : Bool) : jobberref13_Tree_Off (((), n, b, ()), ((T, ()), ())) = some ((there T n, ()), ((offT T n b, ()), ())) := by
  cases ht : there T n with
  | false => simp only [jobberref13_Tree_Off, refThere13 h, Option.bind_some, ht, Bool.not_false, cond_true, offT, cond_false]
  | true =>
    obtain ⟨h0, h1⟩ := there_in ht
    simp only [jobberref13_Tree_Off, refThere13 h, Option.bind_some, ht, Bool.not_true, cond_true, cond_false, ot (show 0 ≤ n ∧ n < (32 : Nat) by omega), tr_get h h0 h1, offT, flipO]
theorem offOk {T : List TR} (h : OkTree T) (n : Int) (b : Bool) : OkTree (offT T n b) := by
  cases ht : there T n with
  | false => rw [offT, ht]; exact h
  | true =>
    rw [offT, ht]
    exact okSet h _ (.inr (there_live h ht))
theorem off_tr {T : List TR} (h : OkTree T) (n m : Int) (b : Bool) (m0 : 0 ≤ m) (m1 : m ≤ 31) : tr (offT T n b) m = if m = n then (bif there T n then flipO (tr T n) b else tr T m) else tr T m := by
  cases ht : there T n with
  | false => rw [offT, ht]; simp
  | true =>
    obtain ⟨h0, h1⟩ := there_in ht
    rw [offT, ht]
    simp only [cond_true]
    rw [tr_set h h0 h1 m0 m1]
theorem off_roles {T : List TR} (h : OkTree T) (n m : Int) (b : Bool) (m0 : 0 ≤ m) (m1 : m ≤ 31) : (tr (offT T n b) m).2.2.1 = (tr T m).2.2.1 ∧ (tr (offT T n b) m).1 = (tr T m).1 ∧ (tr (offT T n b) m).2.1 = (tr T m).2.1 := by
  rw [off_tr h n m b m0 m1]
  by_cases e : m = n
  · subst e
    rw [if_pos rfl]
    cases there T m <;> exact ⟨rfl, rfl, rfl⟩
  · rw [if_neg e]; exact ⟨rfl, rfl, rfl⟩
theorem off_there {T : List TR} (h : OkTree T) (n m : Int) (b : Bool) : there (offT T n b) m = there T m := by
  by_cases hm : 0 ≤ m ∧ m ≤ 31
  · rw [there, there, ot hm, (off_roles h n m b hm.1 hm.2).1]
  · rw [there, there, of_ hm]; rfl
theorem off_PT {T : List TR} (h : OkTree T) (n m s : Int) (b : Bool) (k : Nat) (hk : k < 32) : PT (offT T n b) m s k = PT T m s k := by
  rw [PT, PT, off_there h, off_there h]
  cases ht : there T m with
  | false => rw [Bool.and_false, Bool.and_false, Bool.and_false]
  | true =>
    obtain ⟨h0, h1⟩ := there_in ht
    obtain ⟨a, b', c⟩ := off_roles h n m b h0 h1
    obtain ⟨d, e, f⟩ := off_roles h n k b (by omega) (by omega)
    rw [inS, inS, b', c, e, f]
theorem off_set {T : List TR} (h : OkTree T) (n m s : Int) (b : Bool) : bitsN (PT (offT T n b) m s) 32 = bitsN (PT T m s) 32 := bitsN_ext 32 (fun k hk => off_PT h n m s b k hk)
theorem eqTR_self (x : TR) : ((intEq x.1 x.1) && ((intEq x.2.1 x.2.1) && ((intEq x.2.2.1 x.2.2.1) && ((intEq x.2.2.2.1 x.2.2.2.1) && ((boolEq x.2.2.2.2.1 x.2.2.2.2.1) && (((x.2.2.2.2.2.1.zip x.2.2.2.2.2.1).all fun p => teq (.int .u8) p.1 p.2) && true)))))) = true := by
  simp only [intEq_self, boolEq, beq_self_eq_true, teqs_self, Bool.and_self]
theorem jobberlaw13_TreeTells.law (l : List (Int × Int × Int × Int × Int × Unit)) (pl : Int) (raw : TR) (n scope : Int) (off : Bool) (h0 : Rng (.deep tAsk) l) (h1 : Rng (.int .i64) pl) (h2 : Rng tTR raw) (h3 : Rng (.int .i64) n) (h4 : Rng (.int .i64) scope) (h5 : Rng .bool off) : jobberlaw13_TreeTells ((l, pl, raw, n, scope, off, ()), ()) = some ((true, ()), ()) := by
  obtain ⟨W, hW, e⟩ := some13 l h0 pl raw
  have hl : (bif odec (pl ≥ 0) then bif odec (pl < 32) then W.set pl.toNat raw else W else W).length = 32 := by
    cases odec (pl ≥ 0) <;> cases odec (pl < 32) <;> simp [hW.1]
  generalize (bif odec (pl ≥ 0) then bif odec (pl < 32) then W.set pl.toNat raw else W else W) = T at e hl
  rcases both13 hl with ⟨i, a, b⟩ | ⟨hT, a, b⟩
  · simp only [jobberlaw13_TreeTells, trEta, e, Option.bind_some, a, b, rt13, refRt13, boolEq, beq_self_eq_true, Bool.not_true, cond_false, odT, Bool.not_true, jobberlaw13_TreeRuns.law]
  · have hT' := offOk hT n off
    have key := loop_ind (b := jobberlaw13_TreeTells_l11) (fun d => ∃ i : Int, d = ((scope, (), (), i, ()), ((offT T n off, ()), (offT T n off, ()), ())) ∧ -1 ≤ i ∧ i ≤ 33) (fun r => r = .inr ((), ((offT T n off, ()), (offT T n off, ()), ()))) (fun d => (33 - d.1.2.2.2.1).toNat) (by
      rintro d ⟨i, rfl, i0, i1⟩
      by_cases hi : i ≤ 32
      · right
        have e1 : wr .i64 (i + 1) = i + 1 := wr64 (by omega) (by omega)
        refine ⟨((scope, (), (), i + 1, ()), ((offT T n off, ()), (offT T n off, ()), ())), ?_, ⟨_, rfl, by omega, by omega⟩, by simp only; omega⟩
        cases ht : there (offT T n off) i with
        | false =>
          have z := eqTR_self Z
          simp only [Z] at z
          simp only [jobberlaw13_TreeTells_l11, ot hi, cond_true, cond_false, refThere13 hT', there13 hT', trader13 hT', set13 hT', refSet13 hT', Option.bind_some, ht, boolEq, beq_self_eq_true, Bool.not_true, Z, intEq_self, teqs_self, Bool.and_self, ot (show ∀ {x : Int}, x = x from fun {x} => rfl), e1, odT]
        | true =>
          obtain ⟨q0, q1⟩ := there_in ht
          simp only [jobberlaw13_TreeTells_l11, ot hi, cond_true, cond_false, refThere13 hT', there13 hT', trader13 hT', set13 hT', refSet13 hT', Option.bind_some, ht, boolEq, beq_self_eq_true, Bool.not_true, ot (show 0 ≤ i ∧ i < (32 : Nat) by omega), tr_get hT' q0 q1, intEq_self, teqs_self, Bool.and_self, e1, odT, ot (show ((bitsN (PT (offT T n off) i scope) 32 : Nat) : Int) = ((bitsN (PT (offT T n off) i scope) 32 : Nat) : Int) from rfl)]
      · left
        exact ⟨_, by simp only [jobberlaw13_TreeTells_l11, of_ hi, cond_false], rfl⟩)
    obtain ⟨r, hr, rfl⟩ := key ((scope, (), (), (-1), ()), ((offT T n off, ()), (offT T n off, ()), ())) ⟨-1, rfl, by omega, by omega⟩
    simp only [jobberlaw13_TreeTells, trEta, e, Option.bind_some, a, b, rt13, refRt13, boolEq, beq_self_eq_true, Bool.not_true, cond_false, ot (show (-1 : Int) = -1 from rfl), off13 hT, refOff13 hT, hr, jobberlaw13_TreeRuns.law, odT]
theorem bit64 {D b : Nat} (hD : D < 2 ^ 32) (hb : b ≤ 31) : band .u64 (shr .u64 (D : Int) (b : Int)) 1 = if D.testBit b then 1 else 0 := by
  have h1 : D >>> b ≤ D := by rw [Nat.shiftRight_eq_div_pow]; exact Nat.div_le_self _ _
  rw [shr64 (by omega), show (1 : Int) = ((1 : Nat) : Int) from rfl, band64 (by omega) (by omega), Nat.testBit, Nat.and_comm 1]
  rcases (show D >>> b &&& 1 = 0 ∨ D >>> b &&& 1 = 1 by rw [Nat.and_one_is_mod]; omega) with h | h <;> rw [h] <;> simp
theorem bandn_zero {a b : Nat} (ha : a < 2 ^ 64) (hb : b < 2 ^ 64) (h : ∀ i, a.testBit i = true → b.testBit i = true) : bandn .u64 (a : Int) (b : Int) = 0 := by
  have : (BitVec.ofInt IntKind.u64.bits (a : Int) &&& ~~~BitVec.ofInt IntKind.u64.bits (b : Int)) = 0#_ := by
    apply BitVec.eq_of_getLsbD_eq
    intro i hi
    have e1 : (BitVec.ofInt IntKind.u64.bits (a : Int)).getLsbD i = a.testBit i := by rw [BitVec.getLsbD, u64Nat ha]
    have e2 : (BitVec.ofInt IntKind.u64.bits (b : Int)).getLsbD i = b.testBit i := by rw [BitVec.getLsbD, u64Nat hb]
    rw [BitVec.getLsbD_and, BitVec.getLsbD_not, e1, e2, BitVec.getLsbD_zero]
    cases ht : a.testBit i with
    | false => rfl
    | true => rw [h i ht]; simp
  rw [bandn, this, wru64b] <;> simp
theorem PT_bit (T : List TR) (n s : Int) (i : Nat) (hi : i < 32) : (bitsN (PT T n s) 32).testBit i = PT T n s i := by rw [bitsN_bit, decide_eq_true hi, Bool.true_and]
theorem jobberlaw13_TreeSets.law (l : List (Int × Int × Int × Int × Int × Unit)) (n m : Int) (h0 : Rng (.deep tAsk) l) (h1 : Rng (.int .i64) n) (h2 : Rng (.int .i64) m) : jobberlaw13_TreeSets ((l, n, m, ()), ()) = some ((true, ()), ()) := by
  obtain ⟨T, hZ, e⟩ := some13 l h0 (-1) Z
  simp only [of_ (show ¬ (-1 : Int) ≥ 0 by omega), cond_false, Z] at e
  obtain ⟨a, a0, a1, ea⟩ := within13 (rng64 h1) (lo := 0) (hi := 31) (by omega) (by omega) (by omega) (by omega)
  obtain ⟨b, b0, b1, eb⟩ := within13 (rng64 h2) (lo := 0) (hi := 31) (by omega) (by omega) (by omega) (by omega)
  obtain ⟨a, rfl⟩ := Int.eq_ofNat_of_zero_le a0
  obtain ⟨b, rfl⟩ := Int.eq_ofNat_of_zero_le b0
  have hT := hZ.ok
  have lt : ∀ k s, bitsN (PT T k s) 32 < 2 ^ 32 := fun k s => bitsN_lt _ _
  cases ha : there T a with
  | false =>
    have zero : ∀ s, bitsN (PT T a s) 32 = 0 := fun s => bitsN_zero (fun k _ => by rw [PT, ha, Bool.and_false, Bool.and_false])
    simp only [jobberlaw13_TreeSets, e, Option.bind_some, newZed hZ, odT, Bool.not_true, cond_false, cond_true, ea, eb, set13 hT, there13 hT, ha, Bool.not_false, zero, ot (show ((0 : Nat) : Int) = 0 from rfl), ot (show (-1 : Int) = -1 from rfl), jobberlaw13_TreeRuns.law]
  | true =>
    have own : bitsN (PT T a 1) 32 = 2 ^ a := by
      apply Nat.eq_of_testBit_eq
      intro i
      rw [Nat.testBit_two_pow, bitsN_bit]
      by_cases hi : i = a
      · subst hi
        rw [PT, inS, ha, ot (show (1 : Int) = 1 from rfl), ot (show (i : Int) = i from rfl), decide_eq_true (show i < 32 by omega), decide_eq_true rfl]; rfl
      · rw [PT, inS, ot (show (1 : Int) = 1 from rfl), of_ (show ¬ (i : Int) = a by omega), decide_eq_false (show ¬ a = i by omega), cond_true, Bool.false_and, Bool.and_false]
    have n1 : bandn .u64 ((bitsN (PT T a 1) 32 : Nat) : Int) ((bitsN (PT T a 2) 32 : Nat) : Int) = 0 := by
      have := lt a 1; have := lt a 2
      apply bandn_zero (by omega) (by omega)
      intro i hi
      rw [own, Nat.testBit_two_pow, decide_eq_true_eq] at hi
      subst hi
      rw [PT_bit _ _ _ _ (by omega), PT, inS, ha, of_ (show ¬ (2 : Int) = 1 by omega), ot (show (2 : Int) = 2 from rfl), ot (show (tr T a).1 = (tr T a).1 from rfl), ot (show (tr T a).2.1 = (tr T a).2.1 from rfl)]; rfl
    have n2 : bandn .u64 ((bitsN (PT T a 2) 32 : Nat) : Int) ((bitsN (PT T a 3) 32 : Nat) : Int) = 0 := by
      have := lt a 2; have := lt a 3
      apply bandn_zero (by omega) (by omega)
      intro i hi
      have h32 : i < 32 := by
        rw [bitsN_bit] at hi
        simp only [Bool.and_eq_true, decide_eq_true_eq] at hi
        exact hi.1
      rw [PT_bit _ _ _ _ h32, PT, inS, of_ (show ¬ (2 : Int) = 1 by omega), ot (show (2 : Int) = 2 from rfl), cond_false, cond_true] at hi
      rw [PT_bit _ _ _ _ h32, PT, inS, of_ (show ¬ (3 : Int) = 1 by omega), of_ (show ¬ (3 : Int) = 2 by omega), ot (show (3 : Int) = 3 from rfl), cond_false, cond_false, cond_true]
      simp only [Bool.and_eq_true] at hi ⊢
      exact ⟨hi.1.1, hi.2⟩
    have bb : (bitsN (PT T a 3) 32).testBit b = (odec ((tr T b).1 = (tr T a).1) && there T b) := by
      rw [PT_bit _ _ _ _ (by omega), PT, inS, of_ (show ¬ (3 : Int) = 1 by omega), of_ (show ¬ (3 : Int) = 2 by omega), ot (show (3 : Int) = 3 from rfl), cond_false, cond_false, cond_true, ha, Bool.and_true]
    have dd : (bitsN (PT T a 2) 32).testBit b = ((odec ((tr T b).1 = (tr T a).1) && odec ((tr T b).2.1 = (tr T a).2.1)) && there T b) := by
      rw [PT_bit _ _ _ _ (by omega), PT, inS, of_ (show ¬ (2 : Int) = 1 by omega), ot (show (2 : Int) = 2 from rfl), cond_false, cond_true, ha, Bool.and_true]
    have f3 : there T b = true → (tr T b).1 = (tr T a).1 → bitsN (PT T b 3) 32 = bitsN (PT T a 3) 32 := fun h1 h2 => bitsN_ext 32 (fun k hk => by simp only [PT, inS, h1, ha, h2, of_ (show ¬ (3 : Int) = 1 by omega), of_ (show ¬ (3 : Int) = 2 by omega), cond_false])
    have f2 : there T b = true → (tr T b).1 = (tr T a).1 → (tr T b).2.1 = (tr T a).2.1 → bitsN (PT T b 2) 32 = bitsN (PT T a 2) 32 := fun h1 h2 h3 => bitsN_ext 32 (fun k hk => by simp only [PT, inS, h1, ha, h2, h3, of_ (show ¬ (2 : Int) = 1 by omega), cond_false])
    rw [own] at n1
    have o2 := own
    cases hb : there T b with
    | false =>
      have bb' : (bitsN (PT T a 3) 32).testBit b = false := by rw [bb, hb, Bool.and_false]
      have dd' : (bitsN (PT T a 2) 32).testBit b = false := by rw [dd, hb, Bool.and_false]
      simp only [jobberlaw13_TreeSets, e, Option.bind_some, newZed hZ, odT, Bool.not_true, cond_false, cond_true, ea, eb, set13 hT, there13 hT, trader13 hT, ha, Bool.not_false, ot (show (-1 : Int) = -1 from rfl), of_ (show ¬ (a : Int) < 0 by omega), of_ (show ¬ (b : Int) < 0 by omega), n1, n2, shl64 (show a ≤ 63 by omega), own, bit64 (lt a 2) (show b ≤ 31 by omega), bit64 (lt a 3) (show b ≤ 31 by omega), bb', dd', jobberlaw13_TreeRuns.law, Bool.false_eq_true, if_false, of_ (show ¬ (0 : Int) = 1 by omega), hb, ot (show (0 : Int) = 0 from rfl), boolEq, beq_self_eq_true]
    | true =>
      by_cases hf : (tr T b).1 = (tr T a).1
      · have bb' : (bitsN (PT T a 3) 32).testBit b = true := by rw [bb, hb, ot hf]; rfl
        by_cases hg : (tr T b).2.1 = (tr T a).2.1
        · have dd' : (bitsN (PT T a 2) 32).testBit b = true := by rw [dd, hb, ot hf, ot hg]; rfl
          simp only [jobberlaw13_TreeSets, e, Option.bind_some, newZed hZ, odT, Bool.not_true, cond_false, cond_true, ea, eb, set13 hT, there13 hT, trader13 hT, ha, Bool.not_false, ot (show (-1 : Int) = -1 from rfl), of_ (show ¬ (a : Int) < 0 by omega), of_ (show ¬ (b : Int) < 0 by omega), n1, n2, shl64 (show a ≤ 63 by omega), own, bit64 (lt a 2) (show b ≤ 31 by omega), bit64 (lt a 3) (show b ≤ 31 by omega), bb', dd', jobberlaw13_TreeRuns.law, if_true, of_ (show ¬ (1 : Int) = 0 by omega), hb, ot (show (1 : Int) = 1 from rfl), f2 hb hf hg, f3 hb hf, ot hf, ot hg, hg, hf, boolEq, beq_self_eq_true]
        · have dd' : (bitsN (PT T a 2) 32).testBit b = false := by rw [dd, hb, ot hf, of_ hg]; rfl
          simp only [jobberlaw13_TreeSets, e, Option.bind_some, newZed hZ, odT, Bool.not_true, cond_false, cond_true, ea, eb, set13 hT, there13 hT, trader13 hT, ha, Bool.not_false, ot (show (-1 : Int) = -1 from rfl), of_ (show ¬ (a : Int) < 0 by omega), of_ (show ¬ (b : Int) < 0 by omega), n1, n2, shl64 (show a ≤ 63 by omega), own, bit64 (lt a 2) (show b ≤ 31 by omega), bit64 (lt a 3) (show b ≤ 31 by omega), bb', dd', jobberlaw13_TreeRuns.law, if_true, Bool.false_eq_true, if_false, of_ (show ¬ (1 : Int) = 0 by omega), of_ (show ¬ (0 : Int) = 1 by omega), hb, ot (show (1 : Int) = 1 from rfl), f3 hb hf, ot hf, hf, boolEq, beq_self_eq_true]
      · have bb' : (bitsN (PT T a 3) 32).testBit b = false := by rw [bb, hb, of_ hf]; rfl
        have dd' : (bitsN (PT T a 2) 32).testBit b = false := by rw [dd, hb, of_ hf]; rfl
        simp only [jobberlaw13_TreeSets, e, Option.bind_some, newZed hZ, odT, Bool.not_true, cond_false, cond_true, ea, eb, set13 hT, there13 hT, trader13 hT, ha, Bool.not_false, ot (show (-1 : Int) = -1 from rfl), of_ (show ¬ (a : Int) < 0 by omega), of_ (show ¬ (b : Int) < 0 by omega), n1, n2, shl64 (show a ≤ 63 by omega), own, bit64 (lt a 2) (show b ≤ 31 by omega), bit64 (lt a 3) (show b ≤ 31 by omega), bb', dd', jobberlaw13_TreeRuns.law, Bool.false_eq_true, if_false, of_ (show ¬ (0 : Int) = 1 by omega), hb, ot (show (0 : Int) = 0 from rfl), of_ hf, boolEq, beq_self_eq_true]
theorem jobberlaw13_TreeOff.law (l : List (Int × Int × Int × Int × Int × Unit)) (n : Int) (h0 : Rng (.deep tAsk) l) (h1 : Rng (.int .i64) n) : jobberlaw13_TreeOff ((l, n, ()), ()) = some ((true, ()), ()) := by
  obtain ⟨W, hZ, e⟩ := some13 l h0 (-1) Z
  simp only [of_ (show ¬ (-1 : Int) ≥ 0 by omega), cond_false, Z] at e
  obtain ⟨k, k0, k1, ek⟩ := within13 (rng64 h1) (lo := 0) (hi := 31) (by omega) (by omega) (by omega) (by omega)
  have hT := hZ.ok
  have own : ∀ i, 0 ≤ i → i ≤ 31 → (bif there W i then tr W i else Z) = tr W i := fun i i0 i1 => by
    rcases hZ.2 _ (List.mem_of_getElem? (tr_get hT i0 i1)) with e | e
    · cases there W i
      · exact e.symm
      · rfl
    · have : there W i = true := by rw [there, ot (show 0 ≤ i ∧ i ≤ 31 from ⟨i0, i1⟩), of_ (show ¬ (tr W i).2.2.1 = 0 by have := e.2.2.2.2.1; omega)]; rfl
      rw [this]; rfl
  have out1 : there W (-1) = false := by rw [there, of_ (by omega)]; rfl
  have out2 : there W 32 = false := by rw [there, of_ (by omega)]; rfl
  have loop : ∀ (T : List TR) (x : TR), OkTree T → (∀ i, 0 ≤ i → i ≤ 31 → i ≠ k → (bif there T i then tr T i else Z) = tr W i) → loopFix jobberlaw13_TreeOff_l12 (((), (), k, (), 0, ()), (W, (T, ()), x, ())) = some (.inr (((), k, (), ()), (W, (T, ()), x, ()))) := by
    intro T x hTT hh
    have key := loop_ind (b := jobberlaw13_TreeOff_l12) (fun d => ∃ i : Int, d = (((), (), k, (), i, ()), (W, (T, ()), x, ())) ∧ 0 ≤ i ∧ i ≤ 32) (fun r => r = .inr (((), k, (), ()), (W, (T, ()), x, ()))) (fun d => (32 - d.1.2.2.2.2.1).toNat) (by
      rintro d ⟨i, rfl, i0, i1⟩
      by_cases hi : i < 32
      · right
        have e1 : wr .i64 (i + 1) = i + 1 := wr64 (by omega) (by omega)
        refine ⟨(((), (), k, (), i + 1, ()), (W, (T, ()), x, ())), ?_, ⟨_, rfl, by omega, by omega⟩, by simp only; omega⟩
        by_cases hk : i = k
        · simp only [jobberlaw13_TreeOff_l12, ot hi, cond_true, ot hk, Bool.not_true, cond_false, trEta, e1]
        · simp only [jobberlaw13_TreeOff_l12, ot hi, cond_true, of_ hk, Bool.not_false, trader13 hTT, hh i i0 (by omega) hk, Option.bind_some, ot (show 0 ≤ i ∧ i < (32 : Nat) by omega), tr_get hT i0 (show i ≤ 31 by omega), eqTR_self, Bool.not_true, cond_false, trEta, e1]
      · left
        exact ⟨_, by simp only [jobberlaw13_TreeOff_l12, of_ hi, cond_false, trEta], rfl⟩)
    obtain ⟨r, hr, rfl⟩ := key (((), (), k, (), 0, ()), (W, (T, ()), x, ())) ⟨0, rfl, by omega, by omega⟩
    exact hr
  have hT1 := offOk hT k true
  have lp : loopFix jobberlaw13_TreeOff_l12 (((), (), k, (), 0, ()), (W, (offT W k true, ()), (bif there W k then tr W k else Z), ())) = some (.inr (((), k, (), ()), (W, (offT W k true, ()), (bif there W k then tr W k else Z), ()))) := by
    apply loop _ _ hT1
    intro i i0 i1 hk
    rw [off_there hT, off_tr hT k i true i0 i1, if_neg hk]
    exact own i i0 i1
  have hT2 := offOk hT1 k (bif there W k then tr W k else Z).2.2.2.2.1
  have back : (bif there (offT (offT W k true) k (bif there W k then tr W k else Z).2.2.2.2.1) k then tr (offT (offT W k true) k (bif there W k then tr W k else Z).2.2.2.2.1) k else Z) = (bif there W k then tr W k else Z) := by
    rw [off_there hT1, off_there hT]
    cases hk : there W k with
    | false => rfl
    | true =>
      simp only [cond_true]
      rw [off_tr hT1 k k _ k0 k1, if_pos rfl, off_there hT, hk, cond_true, off_tr hT k k _ k0 k1, if_pos rfl, hk, cond_true]
      rfl
  generalize hw : (bif there W k then tr W k else Z) = was at lp back hT2
  have hT3 := offOk hT2 (-1) true
  have o1 : ∀ m, there (offT (offT W k true) k was.2.2.2.2.1) m = there W m := fun m => by rw [off_there hT1, off_there hT]
  have o2 : ∀ m, there (offT (offT (offT W k true) k was.2.2.2.2.1) (-1) true) m = there W m := fun m => by rw [off_there hT2, o1]
  have hsets : ∀ s, bitsN (PT (offT W k true) k s) 32 = bitsN (PT W k s) 32 := fun s => off_set hT k k s true
  have hself : ∀ s, odec (((bitsN (PT W k s) 32 : Nat) : Int) = ((bitsN (PT W k s) 32 : Nat) : Int)) = true := fun s => ot rfl
  have hoff : there W k = true → (bif there W k then tr (offT W k true) k else Z).2.2.2.2.1 = true := fun h => by
    rw [h, cond_true, off_tr hT k k true k0 k1, if_pos rfl, h]; rfl
  cases hk : there W k with
  | false =>
    simp only [hk, cond_false] at hw
    rw [o1, hk] at back
    simp only [cond_false] at back
    simp only [jobberlaw13_TreeOff, e, Option.bind_some, newZed hZ, ot (show (-1 : Int) = -1 from rfl), odT, Bool.not_true, cond_false, ek, set13 hT, set13 hT1, trader13 hT, trader13 hT1, trader13 hT2, hw, off13 hT, off13 hT1, off13 hT2, off13 hT3, there13 hT1, off_there hT, hk, boolEq, beq_self_eq_true, hsets, trEta, lp, back, intEq_self, teqs_self, Bool.and_self, cond_true, o1, o2, out1, out2, Bool.not_false, jobberlaw13_TreeRuns.law]
  | true =>
    have hoff := hoff hk
    rw [hk] at hoff
    simp only [hk, cond_true] at hw hoff
    rw [o1, hk] at back
    simp only [cond_true] at back
    simp only [jobberlaw13_TreeOff, e, Option.bind_some, newZed hZ, ot (show (-1 : Int) = -1 from rfl), odT, Bool.not_true, cond_false, ek, set13 hT, set13 hT1, trader13 hT, trader13 hT1, trader13 hT2, hw, off13 hT, off13 hT1, off13 hT2, off13 hT3, there13 hT1, off_there hT, hk, boolEq, beq_self_eq_true, hsets, trEta, lp, back, intEq_self, teqs_self, Bool.and_self, cond_true, o1, o2, out1, out2, Bool.not_false, jobberlaw13_TreeRuns.law, hoff]
noncomputable def BX (h : Int) : TR := bif odec (h = 0) then (8, 0, 1, 0, false, List.replicate 32 (0 : Int), ()) else bif odec (h = 1) then (1, 16, 1, 0, false, List.replicate 32 (0 : Int), ()) else bif odec (h = 2) then (1, 0, 16, 0, false, List.replicate 32 (0 : Int), ()) else bif odec (h = 3) then (1, 0, 1, 256, false, List.replicate 32 (0 : Int), ()) else (1, 0, 0, 0, false, List.replicate 32 (0 : Int), ())
theorem badBX (h : Int) : badT (BX h) = true := by
  have nz : ∀ (a b c d : Int), a ≠ 0 → isZ (a, b, c, d, false, List.replicate 32 (0 : Int), ()) = false := fun a b c d ha => by rw [isZ]; simp only; rw [intEq_ne ha, Bool.false_and]
  have nr : ∀ (x : TR), isZ x = false → (¬ (Rt x) ∨ x.2.2.1 = 0) → badT x = true := fun x h1 h2 => by
    rw [badT, h1]
    rcases h2 with h2 | h2
    · rw [of_ h2]; rfl
    · rw [ot h2]; simp
  rw [BX]
  cases odec (h = 0) <;> cases odec (h = 1) <;> cases odec (h = 2) <;> cases odec (h = 3) <;> simp only [cond_true, cond_false] <;> refine nr _ (nz _ _ _ _ (by omega)) ?_ <;> simp [Rt]
theorem jobberlaw13_TreeBits.law (l : List (Int × Int × Int × Int × Int × Unit)) (n m how : Int) (h0 : Rng (.deep tAsk) l) (h1 : Rng (.int .i64) n) (h2 : Rng (.int .i64) m) (h3 : Rng (.int .i64) how) : jobberlaw13_TreeBits ((l, n, m, how, ()), ()) = some ((true, ()), ()) := by
  obtain ⟨W, hZ, e⟩ := some13 l h0 (-1) Z
  simp only [of_ (show ¬ (-1 : Int) ≥ 0 by omega), cond_false, Z] at e
  obtain ⟨a, a0, a1, ea⟩ := within13 (rng64 h1) (lo := 0) (hi := 31) (by omega) (by omega) (by omega) (by omega)
  obtain ⟨b, b0, b1, eb⟩ := within13 (rng64 h2) (lo := 0) (hi := 31) (by omega) (by omega) (by omega) (by omega)
  obtain ⟨h, w0, w1, eh⟩ := within13 (rng64 h3) (lo := 0) (hi := 4) (by omega) (by omega) (by omega) (by omega)
  have hT := hZ.ok
  have st : ∀ (T : List TR) (i c : Int), T.length = 32 → 0 ≤ i → i < 2 → ([a, b] : List Int)[i.toNat]? = some c → 0 ≤ c → c ≤ 31 → jobberlaw13_TreeBits_l4 ((how, (), a, b, [a, b], (([a, b] : List Int).length : Int), i, ()), (T, ())) = some (.inl ((how, (), a, b, [a, b], (([a, b] : List Int).length : Int), i + 1, ()), (T.set c.toNat (BX h), ()))) := by
    intro T i c hl i0 i1 ec c0 c1
    have e1 : wr .i64 (i + 1) = i + 1 := wr64 (by omega) (by omega)
    have g1 := tr_len hl c0 c1
    have g2 : (T.set c.toNat (1, 0, 1, 0, false, List.replicate 32 (0 : Int), ()))[c.toNat]? = some (1, 0, 1, 0, false, List.replicate 32 (0 : Int), ()) := by
      rw [List.getElem?_set]; simp; omega
    have h5 : h = 0 ∨ h = 1 ∨ h = 2 ∨ h = 3 ∨ h = 4 := by omega
    simp only [jobberlaw13_TreeBits_l4, ot (show i < (([a, b] : List Int).length : Int) from i1), cond_true, ot i0, ec, Option.bind_some, ot (show 0 ≤ c ∧ c < (32 : Nat) by omega), g1, g2, eh, e1, List.set_set, BX]
    rcases h5 with q | q | q | q | q
    · rw [ot q]; rfl
    · rw [ot q, of_ (show ¬ h = 0 by omega)]; rfl
    · rw [ot q, of_ (show ¬ h = 0 by omega), of_ (show ¬ h = 1 by omega)]; rfl
    · rw [ot q, of_ (show ¬ h = 0 by omega), of_ (show ¬ h = 1 by omega), of_ (show ¬ h = 2 by omega)]; rfl
    · rw [ot q, of_ (show ¬ h = 0 by omega), of_ (show ¬ h = 1 by omega), of_ (show ¬ h = 2 by omega), of_ (show ¬ h = 3 by omega)]; rfl
  have s1 := st W 0 a hZ.1 (by omega) (by omega) rfl a0 a1
  have l1 : (W.set a.toNat (BX h)).length = 32 := by rw [List.length_set]; exact hZ.1
  have s2 := st (W.set a.toNat (BX h)) (0 + 1) b l1 (by omega) (by omega) rfl b0 b1
  have l2 : ((W.set a.toNat (BX h)).set b.toNat (BX h)).length = 32 := by rw [List.length_set]; exact l1
  have s3 : jobberlaw13_TreeBits_l4 ((how, (), a, b, [a, b], (([a, b] : List Int).length : Int), 0 + 1 + 1, ()), (((W.set a.toNat (BX h)).set b.toNat (BX h)), ())) = some (.inr (((), a, b, ()), (((W.set a.toNat (BX h)).set b.toNat (BX h)), ()))) := by
    simp only [jobberlaw13_TreeBits_l4, of_ (show ¬ (0 + 1 + 1 : Int) < (([a, b] : List Int).length : Int) by simp), cond_false]
  have lp : loopFix jobberlaw13_TreeBits_l4 ((how, (), a, b, [a, b], (([a, b] : List Int).length : Int), 0, ()), (W, ())) = some (((), a, b, ()), (((W.set a.toNat (BX h)).set b.toNat (BX h)), ())) := by
    rw [loopFix_eq, s1]
    simp only
    rw [loopFix_eq, s2]
    simp only
    rw [loopFix_eq, s3]
  have bad : ∀ j, 0 ≤ j → j ≤ 31 → (badT (tr ((W.set a.toNat (BX h)).set b.toNat (BX h)) j) = true ↔ (j = a ∨ j = b)) := by
    intro j j0 j1
    have k1 : a.toNat < W.length := by rw [hZ.1]; omega
    have k2 : b.toNat < (W.set a.toNat (BX h)).length := by rw [l1]; omega
    have : tr ((W.set a.toNat (BX h)).set b.toNat (BX h)) j = if j = b then BX h else if j = a then BX h else tr W j := by
      simp only [tr, List.getD_eq_getElem?_getD, List.getElem?_set]
      by_cases e1 : j = b
      · subst e1; simp at k2 ⊢; simp [k2]
      · rw [if_neg (show ¬ b.toNat = j.toNat by omega), if_neg e1]
        by_cases e2 : j = a
        · subst e2; simp [k1]
        · rw [if_neg (show ¬ a.toNat = j.toNat by omega), if_neg e2]
    rw [this]
    by_cases e1 : j = b
    · rw [if_pos e1, badBX]; simp [e1]
    · rw [if_neg e1]
      by_cases e2 : j = a
      · rw [if_pos e2, badBX]; simp [e2]
      · rw [if_neg e2, zedFine hZ j j0 (by omega)]; simp [e1, e2]
  generalize ((W.set a.toNat (BX h)).set b.toNat (BX h)) = T at lp l2 bad
  rcases new13 T l2 with ⟨i, i0, i1, i2, i3, i4⟩ | ⟨f, _⟩
  · have hi := (bad i i0 i1).1 i3
    have ha : ¬ a < i := fun hlt => by have := i2 a a0 hlt; rw [(bad a a0 a1).2 (.inl rfl)] at this; cases this
    have hb : ¬ b < i := fun hlt => by have := i2 b b0 hlt; rw [(bad b b0 b1).2 (.inr rfl)] at this; cases this
    have hm : i = imin a b := by
      rw [imin]
      by_cases q : b < a
      · rw [ot q]; simp only [cond_true]; omega
      · rw [of_ q]; simp only [cond_false]; omega
    simp only [jobberlaw13_TreeBits, e, ea, eb, Option.bind_some, lp, i4, ot hm, cond_true, jobberlaw13_TreeRuns.law]
  · have := f a a0 (by omega)
    rw [(bad a a0 a1).2 (.inl rfl)] at this; cases this
end AM
