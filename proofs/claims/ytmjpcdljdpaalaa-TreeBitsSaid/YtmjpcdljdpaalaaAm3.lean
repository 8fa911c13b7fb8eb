/- The abstract machine, continued. Conditions: none. -/
import Derived.Test.YtmjpcdljdpaalaaAm2
set_option linter.unusedVariables false
set_option linter.unusedSimpArgs false
/- A law's run. -/
namespace AM
open Go Go.RowKit Go.ChangeShapes Go.WideShapes
def holes : Nat → List Ty → List (Nat × Pat)
  | _, [] => []
  | i, t :: ts => (i, .hole t) :: holes (i + 1) ts
def RngS : (i : Nat) → (ts : List Ty) → sdens (holes i ts) → Prop
  | _, [], _ => True
  | i, t :: ts, d => Rng t d.1 ∧ RngS (i + 1) ts d.2
def fits (P : Program) : List TypeId → List Ty → Bool
  | [], [] => true
  | p :: ps, t :: ts => tyFit P 40 p t && fits P ps ts
  | _, _ => false
section
variable {H : Type} {enc : TypeId × Value → H} {P : Program} {w : World} {N : Names} {D : Nat → Prop} {base : Nat}
theorem tyFit_size {m : Nat} {t : TypeId} {te : Ty} (h : tyFit P m t te = true) : P.cellsOf t = te.size := by
  cases m with
  | zero => simp [tyFit] at h
  | succ m => unfold tyFit at h; simp only [Bool.and_eq_true, decide_eq_true_eq] at h; exact h.1
theorem one_cell {te : Ty} {x : te.den} {v : Value} (ha : (AM.enc te x).isAgg = false) (hs : te.size = 1) (h : TRel D w te x ([v][·]?)) : VRel N D w (AM.enc te x) v := by
  unfold VRel
  rw [ha]
  refine (enc_rel te x _).2 (TRel_congr te x _ _ (fun j hj => ?_) h)
  obtain rfl : j = 0 := by omega
  rfl
theorem many_cells {te : Ty} {x : te.den} {cs : Array Value} (ha : (AM.enc te x).isAgg = true) (hs : cs.size = te.size) (h : TRel D w te x (cs.toList[·]?)) : VRel N D w (AM.enc te x) (.agg cs) := by
  unfold VRel
  rw [ha]
  exact ⟨cs, rfl, by rw [hs, enc_size], (enc_rel te x _).2 (TRel.func h fun j => by simp)⟩
theorem enc_isAgg (te : Ty) (x : te.den) : (AM.enc te x).isAgg = (tsh te).isAgg := by rw [isAgg_sh, enc_sh]
theorem cons_agg (a b : Ty) : (tsh (.cons a b)).isAgg = true := by
  simp only [tsh]
  cases tsh b <;> rfl
theorem fitFs_agg {m : Nat} {fs : List Field} {off : Nat} {te : Ty} (hf : fitFs P m fs off te = true) : (tsh te).isAgg = true := by
  cases m with
  | zero => simp [fitFs] at hf
  | succ m =>
    unfold fitFs at hf
    split at hf
    · cases hf
    · rfl
    · exact cons_agg _ _
    · cases hf
theorem val_read {m : Nat} {t : TypeId} {te : Ty} {x : te.den} {v : Value} (hf : tyFit P m t te = true) (hv : Value.okWide P w .any base t v) (h : TRel D w te x (v.cells.toList[·]?)) : VRel N D w (AM.enc te x) v := by
  have hsz := tyFit_size hf
  cases m with
  | zero => simp [tyFit] at hf
  | succ m =>
    unfold tyFit at hf
    simp only [Bool.and_eq_true, decide_eq_true_eq] at hf
    replace hf := hf.2
    split at hf
    · rename_i k k' hu
      obtain ⟨n, rfl⟩ := okWide_int hu hv
      exact one_cell (by rw [enc_isAgg]; rfl) rfl (by simpa [Value.cells] using h)
    · rename_i hu
      obtain ⟨n, rfl⟩ := okWide_bool hu hv
      exact one_cell (by rw [enc_isAgg]; rfl) rfl (by simpa [Value.cells] using h)
    · rename_i hu
      obtain ⟨n, rfl⟩ := okWide_string hu hv
      exact one_cell (by rw [enc_isAgg]; rfl) rfl (by simpa [Value.cells] using h)
    · rename_i e te hu
      obtain ⟨a, l, c, rfl⟩ := okWide_slice hu hv
      exact one_cell (by rw [enc_isAgg]; rfl) rfl (by simpa [Value.cells] using h)
    · rename_i n e n' te hu
      simp only [Value.okWide, hu] at hv
      obtain ⟨cs, rfl, hcs, _⟩ := hv
      exact many_cells (by rw [enc_isAgg]; rfl) (by rw [hcs, hsz]) (by simpa [Value.cells] using h)
    · rename_i fs hu
      simp only [Value.okWide, hu] at hv
      obtain ⟨cs, rfl, hcs, _⟩ := hv
      exact many_cells (by rw [enc_isAgg]; exact fitFs_agg hf) (by rw [hcs, hsz]) (by simpa [Value.cells] using h)
    · cases hf
theorem args_read (hD : ∀ b, b < w.heap.size → D b) : ∀ (pts : List TypeId) (ts : List Ty) (i : Nat) (vs : List Value) (ds : List (DataW H)) (ps : List MemPlace), fits P pts ts = true → DataW.TrodAll enc P w 0 (fun _ => true) true pts vs ds ps →
    (∀ (j : Nat) t v, pts[j]? = some t → vs[j]? = some v → Value.okWide P w .any base t v) → Small (DataW.weightsEach P pts ds) →
    ∃ d : sdens (holes i ts), RngS i ts d ∧ vs.length = ts.length ∧ ∀ y, VRel N D w (mkT (fun c => c) (holes i ts) d (i + y)) (vs.getD y Go.undef)
  | [], [], i, vs, ds, ps, _, h, _, _ => by
    obtain ⟨rfl, rfl, rfl⟩ := trodAll_nil h
    exact ⟨(), trivial, rfl, fun y => by simp only [holes, mkT]; exact VRel_undef⟩
  | p :: pts, t :: ts, i, vs, ds, ps, hf, h, hv, hs => by
    obtain ⟨v, vs, d, ds, p1, q1, rfl, rfl, rfl, ⟨fuel, h1⟩, h2⟩ := trodAll_cons h
    simp only [fits, Bool.and_eq_true] at hf
    simp only [DataW.weightsEach] at hs
    obtain ⟨x, x1, x2, _⟩ := (trod_read hD 40).1 p t fuel _ _ hf.1 h1 hs.left
    obtain ⟨d2, e1, e2, e3⟩ := args_read hD pts ts (i + 1) vs ds q1 hf.2 h2 (fun j t v g1 g2 => hv (j + 1) t v (by simpa using g1) (by simpa using g2)) hs.right
    refine ⟨(x, d2), ⟨x2, e1⟩, by simp [e2], fun y => ?_⟩
    cases y with
    | zero =>
      simp only [holes, mkT, Nat.add_zero, if_true, Pat.mk]
      exact val_read hf.1 (hv 0 p v rfl rfl) x1
    | succ y =>
      simp only [holes, mkT]
      rw [if_neg (by omega)]
      have := e3 y
      rw [show i + 1 + y = i + (y + 1) by omega] at this
      simpa using this
  | [], _ :: _, _, _, _, _, h, _, _, _ => by simp [fits] at h
  | _ :: _, [], _, _, _, _, h, _, _, _ => by simp [fits] at h
/-- arguments read behind the call as they did -/
theorem trodAll_back (hl : laidOutB P = true) : ∀ {pts : List TypeId} {vs : List Value} {ds : List (DataW H)} {ps : List MemPlace} {w' : World}, (pts.all fun t => P.readableRec t && decide (t < P.types.size)) = true → DataW.TrodAll enc P w 0 (fun _ => true) true pts vs ds ps → Below w.heap.size w w' →
    DataW.TrodAll enc P w' 0 (fun b => decide (b < w.heap.size)) true pts vs ds ps
  | [], vs, ds, ps, w', _, h, _ => by
    obtain ⟨rfl, rfl, rfl⟩ := trodAll_nil h
    exact trodAll_mk0
  | p :: pts, vs, ds, ps, w', hr, h, hb => by
    obtain ⟨v, vs, d, ds, p1, q1, rfl, rfl, rfl, h1, h2⟩ := trodAll_cons h
    simp only [List.all_cons, Bool.and_eq_true, decide_eq_true_eq] at hr
    obtain ⟨fuel, h1'⟩ := id h1
    refine ⟨p1, q1, Below.trod hl hr.1.1 hr.1.2 h1 hb (fun x hx => DataW.trod_lt fuel _ _ _ h1' x hx), trodAll_back hl hr.2 h2 hb, rfl⟩
theorem law_walk {f : FuncId} {ts : List Ty} {lt : Bool} {F : SPat.den ⟨holes 0 ts, []⟩ → Option (exdens [⟨[(0, .hole .bool)], []⟩])} (hF : ∀ base, FunOK P base f ⟨⟨holes 0 ts, []⟩, [⟨[(0, .hole .bool)], []⟩], lt⟩ F) (hp : ∀ d : sdens (holes 0 ts), RngS 0 ts d → F (d, ()) = some (((true, ()), ()) : (Bool × Unit) × Unit))
    {pts : List TypeId} (hfit : fits P pts ts = true) {args : Array Value} {ds : List (DataW H)} {ps : List MemPlace} (hA : DataW.TrodAll enc P w 0 (fun _ => true) true pts args.toList ds ps)
    (hval : ∀ (j : Nat) t v, pts[j]? = some t → args[j]? = some v → Value.okWide P w .any base t v) (hs : Small (DataW.weightsEach P pts ds)) :
    Calls P f args w fun e w' => e = .returned (.bool true) ∧ Below w.heap.size w w' := by
  obtain ⟨d, h1, h2, h3⟩ := args_read (N := fun _ => none) (D := fun b => b < w.heap.size) (base := base) (fun _ h => h) pts ts 0 _ _ _ hfit hA (fun j t v g1 g2 => hval j t v g1 (by simpa using g2)) hs
  have hlen : ∀ (i : Nat) (ts : List Ty), (holes i ts).length = ts.length := by
    intro i ts
    induction ts generalizing i with
    | nil => rfl
    | cons t ts ih => simp [holes, ih]
  have S : Sim (fun _ => none) (fun b => b < w.heap.size) w w.heap.size (mkH (fun c => c) ([] : List (Nat × OPat)) () (fun _ => none)) :=
    ⟨fun i o h => by simp [mkH] at h, fun i j oi oj ni nj ai aj h => by simp [mkH] at h, fun b h => h, (fun i nm h => by cases h), Nat.le_refl _⟩
  have hc := (hF w.heap.size).2 (d, ()) _ (hp d h1) (fun _ => none) (fun b => b < w.heap.size) w args.toList S (by rw [h2, hlen]) (fun y => by have := h3 y; rwa [Nat.zero_add] at this)
  refine hc.mono fun e w' he => ?_
  cases e with
  | panicked c => exact he.elim
  | outgrown => exact he.elim
  | returned v =>
    obtain ⟨Ne, De, post, hv⟩ := he
    have hv : VRel Ne De w' (AM.enc .bool true) v := hv
    refine ⟨by rw [VRel_val.1 hv], ⟨post.ext.os, post.ext.tape, post.ext.output, post.ext.size, fun b hb => post.ext.keep b hb fun ho => ?_⟩⟩
    obtain ⟨i, o, nm, a, g1, _⟩ := ho
    simp [mkH] at g1
end
end AM

/- Words for plain laws. -/
namespace AM
open Go
/-- where a question is answered -/
theorem ot {p : Prop} (h : p) : odec p = true := odec_iff.2 h
theorem of_ {p : Prop} (h : ¬ p) : odec p = false := by
  cases e : odec p with
  | false => rfl
  | true => exact absurd (odec_iff.1 e) h
theorem odT : odec True = true := ot trivial
theorem odF : odec False = false := of_ id
theorem wr64 {n : Int} (h0 : -9223372036854775808 ≤ n) (h1 : n ≤ 9223372036854775807) : wr .i64 n = n := by rw [wr_eq, IntKind.wrap_i64]; omega
theorem rng64 {n : Int} (h : Rng (.int .i64) n) : -9223372036854775808 ≤ n ∧ n ≤ 9223372036854775807 := h
theorem loop_ind {L R : Type} {b : L → Option (L ⊕ R)} (I : L → Prop) (Q : R → Prop) (μ : L → Nat) (h : ∀ l, I l → (∃ r, b l = some (.inr r) ∧ Q r) ∨ (∃ l', b l = some (.inl l') ∧ I l' ∧ μ l' < μ l)) : ∀ l, I l → ∃ r, loopFix b l = some r ∧ Q r := by
  have key : ∀ n l, μ l ≤ n → I l → ∃ r, loopFix b l = some r ∧ Q r := by
    intro n
    induction n with
    | zero =>
      intro l hn hl
      rcases h l hl with ⟨r, h1, h2⟩ | ⟨l', h1, h2, h3⟩
      · exact ⟨r, by rw [loopFix_eq, h1], h2⟩
      · omega
    | succ n ih =>
      intro l hn hl
      rcases h l hl with ⟨r, h1, h2⟩ | ⟨l', h1, h2, h3⟩
      · exact ⟨r, by rw [loopFix_eq, h1], h2⟩
      · obtain ⟨r, h4, h5⟩ := ih l' (by omega) h2
        exact ⟨r, by rw [loopFix_eq, h1]; exact h4, h5⟩
  exact fun l hl => key (μ l) l (Nat.le_refl _) hl
theorem boolEq_eq (a b : Bool) : boolEq a b = (a == b) := rfl
/-- an element, where the index is a number of the list's -/
theorem get_int {β : Type} {xs : List β} {i : Int} (h0 : 0 ≤ i) (h1 : i < (xs.length : Int)) : ∃ x, xs[i.toNat]? = some x ∧ x ∈ xs := by
  have h : i.toNat < xs.length := by omega
  exact ⟨xs[i.toNat], List.getElem?_eq_getElem h, List.getElem_mem h⟩
/-- a number that is brought within bounds -/
theorem within_ok {v lo hi : Int} (hv : -9223372036854775808 ≤ v ∧ v ≤ 9223372036854775807) (h0 : -4611686018427387904 ≤ lo) (h1 : lo ≤ hi) (h2 : hi ≤ 4611686018427387902) (h3 : hi - lo < 4611686018427387904) :
    ∃ r, lo ≤ r ∧ r ≤ hi ∧ (bif odec ((wr .i64 ((wr .i64 (hi - lo)) + 1)) = 0) then none else (bif (odec ((Int.tmod v (wr .i64 ((wr .i64 (hi - lo)) + 1))) < 0)) then some ((((wr .i64 (lo + (wr .i64 ((wr .i64 ((wr .i64 ((Int.tmod v (wr .i64 ((wr .i64 (hi - lo)) + 1))) + hi)) - lo)) + 1)))), ()), ()))
      else some ((((wr .i64 (lo + (Int.tmod v (wr .i64 ((wr .i64 (hi - lo)) + 1))))), ()), ()))) : Option ((Int × Unit) × Unit)) = some ((r, ()), ()) := by
  have e1 : wr .i64 (hi - lo) = hi - lo := wr64 (by omega) (by omega)
  have e2 : wr .i64 (hi - lo + 1) = hi - lo + 1 := wr64 (by omega) (by omega)
  rw [e1, e2]
  have hm0 : Int.tmod v (hi - lo + 1) < hi - lo + 1 := by
    have := Int.tmod_lt_of_pos v (show 0 < hi - lo + 1 by omega)
    exact this
  have hm1 : -(hi - lo + 1) < Int.tmod v (hi - lo + 1) := by
    have := Int.lt_tmod_of_pos v (show 0 < hi - lo + 1 by omega)
    exact this
  generalize Int.tmod v (hi - lo + 1) = m at hm0 hm1
  simp only [odec_eq, Bool.cond_decide]
  rw [if_neg (by omega)]
  by_cases hm : m < 0
  · rw [if_pos hm]
    refine ⟨lo + (m + hi - lo + 1), by omega, by omega, ?_⟩
    rw [wr64 (n := m + hi) (by omega) (by omega), wr64 (n := m + hi - lo) (by omega) (by omega), wr64 (n := m + hi - lo + 1) (by omega) (by omega), wr64 (by omega) (by omega)]
  · rw [if_neg hm]
    refine ⟨lo + m, by omega, by omega, ?_⟩
    rw [wr64 (by omega) (by omega)]
end AM

