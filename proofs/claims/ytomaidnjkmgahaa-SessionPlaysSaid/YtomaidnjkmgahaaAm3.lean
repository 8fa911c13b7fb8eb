/- The abstract machine, continued. Conditions: none. -/
import Derived.LoopN
import Derived.WalkKit
import Derived.ProofKit
import Derived.OpenShut
import Derived.ShutString
import Derived.ChangeOld
import Derived.Below
import Derived.SizedLaws
import Derived.Carry
import Derived.Test.YtomaidnjkmgahaaAm2
set_option linter.unusedVariables false
set_option linter.unusedSimpArgs false
/- Loops keep their contracts. -/
namespace AM
open Go
variable {α : Type} {P : Program} {base : Nat}
theorem outEq_eq {a b : Out} (h : outEq a b = true) : a = b := by
  cases a <;> cases b <;> simp [outEq] at h <;> first | rfl | (subst h; rfl)
theorem tryOuts_spec {s : St} {b : Bnd} {o : Out} : ∀ (es : List SPat) (outs : List Out) (k : exdens es → Option α) (r : α), tryOuts s b o es outs k = some r → (∀ e ∈ es, e.closed = true) → ∃ x, k x = some r ∧ caseP es x fun e n d' => Took s b e d' ∧ (outs[n]?).getD .norm = o
  | [], outs, k, r, h, _ => by simp [tryOuts] at h
  | [e], [], k, r, h, hc => by simp [tryOuts] at h
  | [e], o' :: outs, k, r, h, hc => by
    unfold tryOuts at h
    simp only at h
    split at h
    · rename_i ho
      rcases matchSt_took h (hc e (List.mem_cons_self ..)) with h1 | ⟨d, h1, h2⟩
      · cases h1
      · exact ⟨d, h1, h2, by simp [outEq_eq ho]⟩
    · cases h
  | e :: e' :: es, [], k, r, h, hc => by simp [tryOuts] at h
  | e :: e' :: es, o' :: outs, k, r, h, hc => by
    unfold tryOuts at h
    simp only at h
    have htail : tryOuts s b o (e' :: es) outs (fun d => k (.inr d)) = some r → ∃ x, k x = some r ∧ caseP (e :: e' :: es) x fun e n d' => Took s b e d' ∧ ((o' :: outs)[n]?).getD .norm = o := by
      intro h1
      obtain ⟨x, h3, h4⟩ := tryOuts_spec (e' :: es) outs _ r h1 fun e he => hc e (List.mem_cons_of_mem _ he)
      exact ⟨.inr x, h3, by simpa [caseP] using h4⟩
    split at h
    · rename_i ho
      rcases matchSt_took (k := fun d => k (.inl d)) h (hc e (List.mem_cons_self ..)) with h1 | ⟨d, h1, h2⟩
      · exact htail h1
      · exact ⟨.inl d, h1, h2, by simp [outEq_eq ho]⟩
    · exact htail h
/-- the end of a round, or of the loop -/
def EndOK (base : Nat) (sp : LSpec) (N : Names) (D O : Nat → Prop) (w : World) (x : exdens sp.exits) (e : Exit) (a' : Act) (w' : World) : Prop :=
  e ≠ .normal ∧ caseP sp.exits x fun e' n d' => e = outExit ((sp.outs[n]?).getD .norm) ∧ ∃ Ne De, ExPost base sp.pre N D O w e' Ne De w' d' ∧ SRel Ne De w' base (e'.st sp.nt d') a'
def RoundEnd (base : Nat) (sp : LSpec) (N : Names) (D O : Nat → Prop) (w : World) : sp.pre.den ⊕ exdens sp.exits → Exit → Act → World → Prop
  | .inl d', e, a', w' => e = .normal ∧ ∃ Ne De, ExPost base sp.pre N D O w sp.pre Ne De w' d' ∧ SRel Ne De w' base (sp.pre.st sp.nt d') a'
  | .inr x, e, a', w' => EndOK base sp N D O w x e a' w'
def RoundOK (P : Program) (base : Nat) (fn : Func) (id : Nat) (sp : LSpec) (F : sp.pre.den → Option (sp.pre.den ⊕ exdens sp.exits)) : Prop :=
  ∀ d r, F d = some r → ∀ N D w a, SRel N D w base (sp.pre.st sp.nt d) a → (loopAt id fn).wp P (RoundEnd base sp N D (Own N (mkH (fun c => c) sp.pre.heap d.2 (fun _ => none))) w r) a w
def LSpec.ok (sp : LSpec) : Bool := sp.pre.closed && sp.exits.all fun e => exOk sp.pre e
theorem LSpec.ok_ex {sp : LSpec} (h : sp.ok = true) {e : SPat} (he : e ∈ sp.exits) : exOk sp.pre e = true := by
  simp only [LSpec.ok, Bool.and_eq_true, List.all_eq_true] at h
  exact h.2 e he
theorem LSpec.ok_pre {sp : LSpec} (h : sp.ok = true) : sp.pre.closed = true := by
  simp only [LSpec.ok, Bool.and_eq_true] at h
  exact h.1
theorem round_ok {fn : Func} {id : Nat} {sp : LSpec} {F : sp.pre.den → Option (sp.pre.den ⊕ exdens sp.exits)} {env : Env (sp.pre.den ⊕ exdens sp.exits)} (hok : sp.ok = true) (hloops : LoopsOK fn (loopAt id fn)) (hdraws : DrawsOK (loopAt id fn)) (hm : P.follows .mixedOrders = true) (he : EnvCalls P base env) (hl : EnvLoops P base fn env)
    (hF : ∀ d, loopBody P sp env fn id d = F d) : RoundOK P base fn id sp F := by
  intro d r hr N D w a s
  have hex : exec P env 100000 [.code (loopAt id fn)] (sp.pre.st sp.nt d) (loopK sp) = some r := by
    rw [← hr, ← hF]; rfl
  have hg : Good fn [.code (loopAt id fn)] := ⟨by simpa [Item.ok] using hloops, by simpa [Item.okd] using hdraws, by simp, by intro _ _ _ _ _ e; cases e⟩
  refine exec_sound he hl hm _ _ _ _ _ hex hg N D w _ (RoundEnd base sp N D (Own N (mkH (fun c => c) sp.pre.heap d.2 (fun _ => none))) w r) s fun out st' hK N' D' w' a' s' x' => ?_
  unfold loopK at hK
  split at hK
  · cases hK
  · rename_i hnt
    simp only [decide_eq_true_eq] at hnt
    have hend : ∀ o, o ≠ .norm → tryOuts st' (keepB sp.pre) o sp.exits sp.outs (fun d => some (.inr d)) = some r → RoundEnd base sp N D (Own N (mkH (fun c => c) sp.pre.heap d.2 (fun _ => none))) w r (outExit o) a' w' := by
      intro o ho h1
      obtain ⟨x, hx, hcase⟩ := tryOuts_spec _ _ _ _ h1 fun e he => exOk_closed (LSpec.ok_ex hok he)
      cases hx
      refine ⟨by cases o <;> simp [outExit] at ho ⊢, caseP_mono _ _ (fun e n d' hmem ht => ?_) hcase⟩
      obtain ⟨ht, hout⟩ := ht
      obtain ⟨Ne, De, post, hvals⟩ := took_post (d := d.2) s.sim s'.sim x' rfl ht
      exact ⟨by rw [hout], Ne, De, post, post.sim, fun y => hvals y _ (s'.tmps y), by rw [s'.nt, hnt]; rfl, s'.defers⟩
    cases out with
    | ret => exact hend .ret (by intro e; cases e) hK
    | exit id => exact hend (.exit id) (by intro e; cases e) hK
    | norm =>
      rcases matchSt_took (k := fun d => some (Sum.inl d)) (show matchSt sp.pre st' (keepB sp.pre) (fun d _ _ => some (Sum.inl d)) none = some r from hK) (LSpec.ok_pre hok) with h1 | ⟨d', h1, ht⟩
      · cases h1
      · cases h1
        obtain ⟨Ne, De, post, hvals⟩ := took_post (d := d.2) s.sim s'.sim x' rfl ht
        exact ⟨rfl, Ne, De, post, post.sim, fun y => hvals y _ (s'.tmps y), by rw [s'.nt, hnt]; rfl, s'.defers⟩
theorem rounds_mono {c : Code} {Q Q' : Exit → Act → World → Prop} (h : ∀ e a w, Q e a w → Q' e a w) : ∀ (n : Nat) (a : Act) (w : World), Code.rounds P c Q n a w → Code.rounds P c Q' n a w
  | 0, _, _, h' => h'.elim
  | n + 1, a, w, h' => by
    refine wp_mono h' fun e a' w' hq => ?_
    cases e with
    | normal => exact rounds_mono h n a' w' hq
    | exit id => exact h _ _ _ hq
    | goto l => exact h _ _ _ hq
    | ret => exact h _ _ _ hq
    | panic ch => exact h _ _ _ hq
    | outgrown => exact h _ _ _ hq
theorem ExPost.trans {pre e : SPat} {N N1 Ne : Names} {D D1 De O O1 : Nat → Prop} {w w1 w' : World} {d1 : pre.den} {d : e.den} (hO : O1 = Own N1 (mkH (fun c => c) pre.heap d1.2 (fun _ => none))) (h1 : ExPost base pre N D O w pre N1 D1 w1 d1) (h2 : ExPost base pre N1 D1 O1 w1 e Ne De w' d) : ExPost base pre N D O w e Ne De w' d := by
  subst hO
  refine ⟨h2.sim, h1.ext.trans h2.ext, fun c h50 hc he => ?_⟩
  rw [h2.keep c h50 hc he]
  obtain ⟨q, hq, h3, _⟩ := id hc
  exact h1.keep c h50 hc ⟨q, hq, h3⟩
theorem EndOK.trans {sp : LSpec} {N N1 : Names} {D D1 O O1 : Nat → Prop} {w w1 : World} {d1 : sp.pre.den} (hO : O1 = Own N1 (mkH (fun c => c) sp.pre.heap d1.2 (fun _ => none))) (h1 : ExPost base sp.pre N D O w sp.pre N1 D1 w1 d1) {x : exdens sp.exits} {e : Exit} {a' : Act} {w' : World} (h2 : EndOK base sp N1 D1 O1 w1 x e a' w') : EndOK base sp N D O w x e a' w' := by
  refine ⟨h2.1, caseP_mono _ _ (fun e' n d' _ hq => ?_) h2.2⟩
  obtain ⟨g1, Ne, De, g2, g3⟩ := hq
  exact ⟨g1, Ne, De, h1.trans hO g2, g3⟩
theorem iter_sound {fn : Func} {id : Nat} {sp : LSpec} {F : sp.pre.den → Option (sp.pre.den ⊕ exdens sp.exits)} (hR : RoundOK P base fn id sp F) : ∀ (n : Nat) (d : sp.pre.den) (x : exdens sp.exits), iter F n d = some x → ∀ N D w a, SRel N D w base (sp.pre.st sp.nt d) a →
    Code.rounds P (loopAt id fn) (EndOK base sp N D (Own N (mkH (fun c => c) sp.pre.heap d.2 (fun _ => none))) w x) n a w
  | 0, d, x, h, _, _, _, _, _ => by simp [iter] at h
  | n + 1, d, x, h, N, D, w, a, s => by
    simp only [iter] at h
    split at h
    · cases h
    · rename_i y hy
      cases h
      refine wp_mono (hR d _ hy N D w a s) fun e a' w' hq => ?_
      have hne := hq.1
      cases e with
      | normal => exact absurd rfl hne
      | exit id => exact hq
      | goto l => exact hq
      | ret => exact hq
      | panic ch => exact hq
      | outgrown => exact hq
    · rename_i d1 hd
      refine wp_mono (hR d _ hd N D w a s) fun e a' w' hq => ?_
      obtain ⟨rfl, N1, D1, post, s1⟩ := hq
      exact rounds_mono (fun e a2 w2 h2 => EndOK.trans rfl post h2) n a' w' (iter_sound hR n d1 x h N1 D1 w' a' s1)
theorem loopBy_sound {fn : Func} {id : Nat} {sp : LSpec} {F : sp.pre.den → Option (sp.pre.den ⊕ exdens sp.exits)} (hok : sp.ok = true) (hR : RoundOK P base fn id sp F) {st : St} {k : Out → St → Option α} {fail : Option α} {r : α} (h : loopBy sp F st k fail = some r) :
    fail = some r ∨ ∃ out st', k out st' = some r ∧ LoopOK P base fn id st out st' := by
  unfold loopBy at h
  split at h
  · cases h
  · rename_i hnt
    simp only [decide_eq_true_eq] at hnt
    rcases matchSt_sound h (LSpec.ok_pre hok) with h1 | ⟨d, ro, b, h1, _, M, ht⟩
    · exact .inl h1
    · right
      split at h1
      · cases h1
      · rename_i x hx
        obtain ⟨e, n, d', he, h2, h3⟩ := caseEx_spec _ _ _ _ h1
        split at h2
        · cases h2
        · rename_i hfree
          have hex := LSpec.ok_ex hok he
          refine ⟨_, _, h2, fun N D w a s => ?_⟩
          obtain ⟨m, hm⟩ := loopFix_iff.1 hx
          obtain ⟨S1, T1⟩ := ht N D w base s.sim
          have s1 : SRel (canonN N b sp.pre.heap) (froz N D ro) w base (sp.pre.st sp.nt d) a := ⟨S1, fun y => T1 y _ (s.tmps y), by rw [s.nt, hnt]; rfl, s.defers⟩
          refine wp_mono (wp_loop_rounds m (iter_sound hR m d x hm _ _ w a s1)) fun en a' w' hen => ?_
          obtain ⟨hout, Ne, De, post, se⟩ := h3 _ hen.2
          obtain ⟨N', D', S', X', tr⟩ := ret_sound (s := st) rfl s.sim M hex hfree (lt := false) (by intro e'; cases e') (fun bl hb => own_canon hb) post.sim post.ext fun q hq h50 => post.keep q.1 h50 (exOk_var hex hq h50) ⟨q, hq, rfl⟩
          refine ⟨hout, N', D', ⟨S', fun y => ?_, by rw [se.nt]; exact hnt.symm, se.defers⟩, X'⟩
          refine (mkT_like fun o' ho' z => ⟨mk_sh _ _ _ _, fun g hg => tr o'.2 z g (fun c hc => ?_) (by intro e'; cases e') hg⟩).val (se.tmps y)
          have := exOk_closed hex
          simp only [SPat.closed, List.all_eq_true] at this
          have := this c (List.mem_append.2 (.inl (List.mem_flatMap.2 ⟨o', ho', hc⟩)))
          rw [List.any_eq_true] at this
          obtain ⟨q, hq, h8⟩ := this
          exact ⟨q, hq, by simpa using h8⟩
/-! ### environments -/
def CallsOK (P : Program) (base : Nat) (calls : List (Nat × FCon)) : Prop := ∀ p ∈ calls, p.2.sp.ok = true ∧ FunOK P base p.1 p.2.sp p.2.f
def LoopsAre (P : Program) (base : Nat) (fn : Func) (loops : List (Nat × List LCon)) : Prop := ∀ p ∈ loops, ∀ l ∈ p.2, l.sp.ok = true ∧ RoundOK P base fn p.1 l.sp l.f
theorem lookN_mem {β : Type} {n : Nat} {x : β} : ∀ {l : List (Nat × β)}, lookN n l = some x → (n, x) ∈ l
  | [], h => by simp [lookN] at h
  | p :: l, h => by
    simp only [lookN] at h
    split at h
    · rename_i e
      cases h; subst e
      exact List.mem_cons_self ..
    · exact List.mem_cons_of_mem _ (lookN_mem h)
theorem env_calls {calls : List (Nat × FCon)} {loops : List (Nat × List LCon)} (h : CallsOK P base calls) : EnvCalls P base (mkEnv (α := α) calls loops) := by
  intro f args st fresh k r h100 hc
  simp only [mkEnv] at hc ⊢
  cases hf : lookN f calls with
  | none => rw [hf] at hc; cases hc
  | some c =>
    rw [hf] at hc
    obtain ⟨g1, g2⟩ := h _ (lookN_mem hf)
    exact callBy_sound hc g1 g2 h100
theorem env_loops {fn : Func} {calls : List (Nat × FCon)} {loops : List (Nat × List LCon)} (h : LoopsAre P base fn loops) : EnvLoops P base fn (mkEnv (α := α) calls loops) := by
  intro id st k r hc
  simp only [mkEnv] at hc
  cases hf : lookN id loops with
  | none => rw [hf] at hc; cases hc
  | some ls =>
    rw [hf] at hc
    have hls := h _ (lookN_mem hf)
    simp only at hls hc
    clear hf h
    induction ls with
    | nil => simp [loopsBy] at hc
    | cons l ls ih =>
      unfold loopsBy at hc
      obtain ⟨g1, g2⟩ := hls l (List.mem_cons_self ..)
      rcases loopBy_sound g1 g2 hc with h1 | h1
      · exact ih h1 fun l hl => hls l (List.mem_cons_of_mem _ hl)
      · exact h1
end AM

/- What can be told of a function by looking. -/
namespace AM
open Go
variable {α : Type} {P : Program} {base : Nat}
def loopIds : Code → List Nat
  | .seq a b => loopIds a ++ loopIds b
  | .cond _ a b => loopIds a ++ loopIds b
  | .block _ c => loopIds c
  | .scope c => loopIds c
  | .loop c => (firstRegion c).toList ++ loopIds c
  | _ => []
def drawsB : Code → Bool
  | .seq a b => drawsB a && drawsB b
  | .cond _ a b => drawsB a && drawsB b
  | .block _ c => drawsB c
  | .scope c => drawsB c
  | .loop c => drawsB c
  | .region _ ops draw => !draw || drawOk ops
  | _ => true
theorem draws_ok : ∀ (c : Code), drawsB c = true → DrawsOK c
  | .seq a b, h => by simp only [drawsB, Bool.and_eq_true] at h; exact ⟨draws_ok a h.1, draws_ok b h.2⟩
  | .cond _ a b, h => by simp only [drawsB, Bool.and_eq_true] at h; exact ⟨draws_ok a h.1, draws_ok b h.2⟩
  | .block _ c, h => draws_ok c h
  | .scope c, h => draws_ok c h
  | .region _ ops draw, h => by
    intro hd
    subst hd
    simpa [drawsB] using h
  | .loop _, _ => trivial
  | .skip, _ => trivial
  | .exit _, _ => trivial
  | .ret, _ => trivial
  | .label _, _ => trivial
  | .goto _, _ => trivial
  | .rangeFunc _ _ _ _, _ => trivial
  | .refuse _, _ => trivial
theorem findLoop_mem {id : Nat} : ∀ (c : Code) {c' : Code}, findLoop id c = some c' → id ∈ loopIds c
  | .seq a b, c', h => by
    simp only [findLoop] at h
    split at h
    · exact List.mem_append_left _ (findLoop_mem a ‹_›)
    · exact List.mem_append_right _ (findLoop_mem b h)
  | .cond _ a b, c', h => by
    simp only [findLoop] at h
    split at h
    · exact List.mem_append_left _ (findLoop_mem a ‹_›)
    · exact List.mem_append_right _ (findLoop_mem b h)
  | .block _ c, _, h => by simp only [findLoop] at h; exact findLoop_mem c h
  | .scope c, _, h => by simp only [findLoop] at h; exact findLoop_mem c h
  | .loop c, _, h => by
    simp only [findLoop] at h
    split at h
    · rename_i e; exact List.mem_append_left _ (by rw [e]; simp)
    · exact List.mem_append_right _ (findLoop_mem c h)
  | .region _ _ _, _, h => by simp [findLoop] at h
  | .skip, _, h => by simp [findLoop] at h
  | .exit _, _, h => by simp [findLoop] at h
  | .ret, _, h => by simp [findLoop] at h
  | .label _, _, h => by simp [findLoop] at h
  | .goto _, _, h => by simp [findLoop] at h
  | .rangeFunc _ _ _ _, _, h => by simp [findLoop] at h
  | .refuse _, _, h => by simp [findLoop] at h
theorem nodup_left {a b : List Nat} (h : AM.nodup (a ++ b) = true) : AM.nodup a = true := by
  induction a with
  | nil => rfl
  | cons x xs ih =>
    simp only [List.cons_append, AM.nodup, Bool.and_eq_true, Bool.not_eq_true', List.contains_eq_mem, decide_eq_false_iff_not, List.mem_append, not_or] at h ⊢
    exact ⟨h.1.1, ih h.2⟩
theorem loops_sub {fn : Func} : ∀ (c : Code), (∀ id c', findLoop id c = some c' → loopAt id fn = c') → AM.nodup (loopIds c) = true → LoopsOK fn c
  | .seq a b, H, h => by
    simp only [loopIds] at h
    obtain ⟨h1, h2⟩ := nodup_append h
    refine ⟨loops_sub a (fun id c' e => H id c' (by simp only [findLoop, e])) (nodup_left h), loops_sub b (fun id c' e => H id c' ?_) h1⟩
    have hn : findLoop id a = none := by
      cases ha : findLoop id a with
      | none => rfl
      | some x => exact absurd (findLoop_mem b e) (h2 id (findLoop_mem a ha))
    simp only [findLoop, hn, e]
  | .cond o a b, H, h => by
    simp only [loopIds] at h
    obtain ⟨h1, h2⟩ := nodup_append h
    refine ⟨loops_sub a (fun id c' e => H id c' (by simp only [findLoop, e])) (nodup_left h), loops_sub b (fun id c' e => H id c' ?_) h1⟩
    have hn : findLoop id a = none := by
      cases ha : findLoop id a with
      | none => rfl
      | some x => exact absurd (findLoop_mem b e) (h2 id (findLoop_mem a ha))
    simp only [findLoop, hn, e]
  | .block i c, H, h => loops_sub c (fun id c' e => H id c' (by simpa only [findLoop] using e)) h
  | .scope c, H, h => loops_sub c (fun id c' e => H id c' (by simpa only [findLoop] using e)) h
  | .loop c, H, h => by
    simp only [loopIds] at h
    obtain ⟨h1, h2⟩ := nodup_append h
    refine ⟨fun id e => H id c (by simp only [findLoop, e, if_true]), loops_sub c (fun id c' e => H id c' ?_) h1⟩
    have hne : ¬ firstRegion c = some id := fun e' => h2 id (by rw [e']; simp) (findLoop_mem c e)
    simp only [findLoop, if_neg hne, e]
  | .region _ _ _, _, _ => trivial
  | .skip, _, _ => trivial
  | .exit _, _, _ => trivial
  | .ret, _, _ => trivial
  | .label _, _, _ => trivial
  | .goto _, _, _ => trivial
  | .rangeFunc _ _ _ _, _, _ => trivial
  | .refuse _, _, _ => trivial
theorem loops_ok {fn : Func} {c : Code} (hb : fn.body = some c) (h : AM.nodup (loopIds c) = true) : LoopsOK fn c :=
  loops_sub c (fun id c' e => by simp only [loopAt, hb, e, Option.getD_some]) h
theorem loop_in {fn : Func} {id : Nat} : ∀ (c : Code) {c' : Code}, findLoop id c = some c' → LoopsOK fn c → drawsB c = true → LoopsOK fn c' ∧ drawsB c' = true
  | .seq a b, c', h, hl, hd => by
    simp only [drawsB, Bool.and_eq_true] at hd
    simp only [findLoop] at h
    split at h
    · rename_i x e
      cases h
      exact loop_in a e hl.1 hd.1
    · exact loop_in b h hl.2 hd.2
  | .cond _ a b, c', h, hl, hd => by
    simp only [drawsB, Bool.and_eq_true] at hd
    simp only [findLoop] at h
    split at h
    · rename_i x e
      cases h
      exact loop_in a e hl.1 hd.1
    · exact loop_in b h hl.2 hd.2
  | .block _ c, _, h, hl, hd => by simp only [findLoop] at h; exact loop_in c h hl hd
  | .scope c, _, h, hl, hd => by simp only [findLoop] at h; exact loop_in c h hl hd
  | .loop c, _, h, hl, hd => by
    simp only [findLoop] at h
    split at h
    · cases h; exact ⟨hl.2, hd⟩
    · exact loop_in c h hl.2 hd
  | .region _ _ _, _, h, _, _ => by simp [findLoop] at h
  | .skip, _, h, _, _ => by simp [findLoop] at h
  | .exit _, _, h, _, _ => by simp [findLoop] at h
  | .ret, _, h, _, _ => by simp [findLoop] at h
  | .label _, _, h, _, _ => by simp [findLoop] at h
  | .goto _, _, h, _, _ => by simp [findLoop] at h
  | .rangeFunc _ _ _ _, _, h, _, _ => by simp [findLoop] at h
  | .refuse _, _, h, _, _ => by simp [findLoop] at h
def bodyB (fn : Func) : Bool := match fn.body with | some c => AM.nodup (loopIds c) && drawsB c | none => false
theorem bodyB_spec {fn : Func} (h : bodyB fn = true) : ∃ c, fn.body = some c ∧ LoopsOK fn c ∧ DrawsOK c := by
  unfold bodyB at h
  split at h
  · rename_i c hc
    simp only [Bool.and_eq_true] at h
    exact ⟨c, hc, loops_ok hc h.1, draws_ok c h.2⟩
  · cases h
theorem loopAt_ok {fn : Func} (h : bodyB fn = true) (id : Nat) : LoopsOK fn (loopAt id fn) ∧ DrawsOK (loopAt id fn) := by
  unfold bodyB at h
  split at h
  · rename_i c hc
    simp only [Bool.and_eq_true] at h
    unfold loopAt
    rw [hc]
    simp only
    cases hf : findLoop id c with
    | none => exact ⟨trivial, trivial⟩
    | some c' =>
      obtain ⟨h1, h2⟩ := loop_in c hf (loops_ok hc h.1) h.2
      exact ⟨h1, draws_ok _ h2⟩
  · cases h
def natsEq : List Nat → List Nat → Bool
  | [], [] => true
  | a :: l, b :: m => decide (a = b) && natsEq l m
  | _, _ => false
theorem natsEq_eq : ∀ {l m : List Nat}, natsEq l m = true → l = m
  | [], [], _ => rfl
  | a :: l, b :: m, h => by
    simp only [natsEq, Bool.and_eq_true, decide_eq_true_eq] at h
    rw [h.1, natsEq_eq h.2]
  | [], _ :: _, h => by simp [natsEq] at h
  | _ :: _, [], h => by simp [natsEq] at h
def funB (fn : Func) (sp : FSpec) : Bool := sp.ok && decide (sp.pre.slots.length ≤ fn.ntmps) && (sp.exits.all fun e => natsEq (e.slots.map (·.1)) (List.range fn.results.size)) && bodyB fn
theorem FunIs.of {f : FuncId} {fn : Func} {sp : FSpec} (h1 : P.funcs[f]? = some fn) (h2 : (fn.name == "runtime.NumGoroutine") = false) (h3 : funB fn sp = true) : FunIs P f fn sp := by
  simp only [funB, Bool.and_eq_true, decide_eq_true_eq, List.all_eq_true] at h3
  exact ⟨h1, h2, h3.1.1.1, h3.1.1.2, fun e he => natsEq_eq (h3.1.2 e he), bodyB_spec h3.2⟩
/-- a contract, by its body -/
theorem fun_con {f : FuncId} {fn : Func} {sp : FSpec} {F : sp.pre.den → Option (exdens sp.exits)} {calls : List (Nat × FCon)} {loops : List (Nat × List LCon)} (h1 : P.funcs[f]? = some fn) (h2 : (fn.name == "runtime.NumGoroutine") = false) (h3 : funB fn sp = true)
    (hm : P.follows .mixedOrders = true) (hc : CallsOK P base calls) (hl : LoopsAre P base fn loops) (hF : ∀ d, funBody P sp (mkEnv calls loops) fn d = F d) : FunOK P base f sp F :=
  fun_ok (FunIs.of h1 h2 h3) hm (env_calls hc) (env_loops hl) hF
theorem loop_con {fn : Func} {id : Nat} {sp : LSpec} {F : sp.pre.den → Option (sp.pre.den ⊕ exdens sp.exits)} {calls : List (Nat × FCon)} {loops : List (Nat × List LCon)} (hok : sp.ok = true) (hb : bodyB fn = true)
    (hm : P.follows .mixedOrders = true) (hc : CallsOK P base calls) (hl : LoopsAre P base fn loops) (hF : ∀ d, loopBody P sp (mkEnv calls loops) fn id d = F d) : RoundOK P base fn id sp F :=
  round_ok hok (loopAt_ok hb id).1 (loopAt_ok hb id).2 hm (env_calls hc) (env_loops hl) hF
theorem calls_nil : CallsOK P base [] := fun p hp => by simp at hp
theorem calls_cons {p : Nat × FCon} {l : List (Nat × FCon)} (h1 : p.2.sp.ok = true) (h2 : FunOK P base p.1 p.2.sp p.2.f) (h : CallsOK P base l) : CallsOK P base (p :: l) := List.forall_mem_cons.2 ⟨⟨h1, h2⟩, h⟩
theorem loops_nil {fn : Func} : LoopsAre P base fn [] := fun p hp => by simp at hp
theorem loops_cons {fn : Func} {i : Nat} {ls : List LCon} {l : List (Nat × List LCon)} (h1 : ∀ x ∈ ls, x.sp.ok = true ∧ RoundOK P base fn i x.sp x.f) (h : LoopsAre P base fn l) : LoopsAre P base fn ((i, ls) :: l) := List.forall_mem_cons.2 ⟨h1, h⟩
theorem lcons {fn : Func} {i : Nat} {x : LCon} {ls : List LCon} (h1 : x.sp.ok = true) (h2 : RoundOK P base fn i x.sp x.f) (h : ∀ y ∈ ls, y.sp.ok = true ∧ RoundOK P base fn i y.sp y.f) : ∀ y ∈ x :: ls, y.sp.ok = true ∧ RoundOK P base fn i y.sp y.f := List.forall_mem_cons.2 ⟨⟨h1, h2⟩, h⟩
theorem lnil {fn : Func} {i : Nat} : ∀ y ∈ ([] : List LCon), y.sp.ok = true ∧ RoundOK P base fn i y.sp y.f := fun p hp => by simp at hp
end AM

/- Atomics and sync.Once: calls that are told by hand. -/
namespace AM
open Go
variable {α : Type} {P : Program} {base : Nat}
inductive Prim where
  | load (k : IntKind) (p : List Step)
  | add (k : IntKind) (p : List Step)
  | swap (k : IntKind) (p : List Step)
  | once (pd pm : List Step)
/-- an integer at a place within what a pointer leads to, at the offset off -/
def intAt (st : St) (i : Nat) (q p : List Step) (off : Nat) (kd : IntKind) (k : Int → Option α) : Option α :=
  st.get i q fun u => match decide (offSh p u.sh = some off) with
    | true => st.get i (q ++ p) fun v => (match v with
      | .val (.int k' x) => (match decide (k' = kd) with | true => k x | false => none)
      | _ => none)
    | false => none
/-- a function with what it holds, that is called with nothing -/
def cloArgs : AV → Option (FuncId × List AV)
  | .clo (.func g) cs => some (g, cs)
  | .bnd (.func g) cs => some (g, cs)
  | _ => none
noncomputable def primBy (calls : List (Nat × FCon)) (pr : Prim) (args : List AV) (st : St) (fresh : Nat) (K : AV → St → Option α) : Option α := match pr, args with
  | .load kd p, [.ptr i q] => intAt st i q p 0 kd fun x => K (.val (.int kd x)) st
  | .add kd p, [.ptr i q, .val (.int k' y)] => (match decide (k' = kd) with
    | true => intAt st i q p 0 kd fun x => st.store i (q ++ p) (.val (.int kd (wr kd (x + y)))) fun st' => K (.val (.int kd (wr kd (x + y)))) st'
    | false => none)
  | .swap kd p, [.ptr i q, .val (.int k' y)] => (match decide (k' = kd) with
    | true => intAt st i q p 0 kd fun x => st.store i (q ++ p) (.val (.int kd y)) fun st' => K (.val (.int kd x)) st'
    | false => none)
  | .once pd pm, [.ptr i q, cv] => (match cloArgs cv with
    | none => none
    | some (g, cs) => intAt st i q pd 0 .u32 fun d => (match odec (d = 0) with
    | false => K (.tup []) st
    | true => intAt st i q pm 1 .i32 fun m => (match odec (m = 0) with
      | false => none
      | true => match st.store i (q ++ pm) (.val (.int .i32 1)) some, lookN g calls with
        | some st1, some c => callBy c.sp c.f cs st1 fresh fun av st2 => (match av with
          | .tup [] => intAt st2 i q pd 0 .u32 fun _ => intAt st2 i q pm 1 .i32 fun m2 => (match odec (m2 = 1) with
            | true => st2.store i (q ++ pd) (.val (.int .u32 1)) fun st3 => st3.store i (q ++ pm) (.val (.int .i32 0)) fun st4 => K (.tup []) st4
            | false => none)
          | _ => none)
        | _, _ => none)))
  | _, _ => none
noncomputable def primFp (calls : List (Nat × FCon)) (pr : Prim) (args : List AV) (st : St) : List Nat × List Nat := match pr, args with
  | .load _ _, [.ptr i _] => ([i], [])
  | .add _ _, [.ptr i _, _] => ([], [i])
  | .swap _ _, [.ptr i _, _] => ([], [i])
  | .once _ pm, [.ptr i q, cv] => (match cloArgs cv with
    | none => ([], [i])
    | some (g, cs) => (match st.store i (q ++ pm) (.val (.int .i32 1)) some, lookN g calls with
      | some st1, some c => ((fpBy c.sp cs st1).1, i :: (fpBy c.sp cs st1).2)
      | _, _ => ([], [i])))
  | _, _ => ([], [])
noncomputable def mkEnvP (prims : List (Nat × Prim)) (calls : List (Nat × FCon)) (loops : List (Nat × List LCon)) : Env α where
  call f args st fresh k := match lookN f prims with
    | some pr => primBy calls pr args st fresh k
    | none => (mkEnv calls loops).call f args st fresh k
  loop id st k := (mkEnv calls loops).loop id st k
  fp f args st := match lookN f prims with
    | some pr => primFp calls pr args st
    | none => (mkEnv (α := α) calls loops).fp f args st
/-! ### what the world must do -/
def IsFun (P : Program) (f : FuncId) : Prop := ∃ fn, P.funcs[f]? = some fn ∧ fn.body.isNone = false ∧ (fn.name == "runtime.NumGoroutine") = false
def WLoad (P : Program) (f : FuncId) (k : IntKind) : Prop := IsFun P f ∧ ∀ (b o : Nat) (x : Int) (w : World), w.cell? ⟨b, o, none⟩ = some (.int k x) → Calls P f #[.pointer (some ⟨b, o, none⟩)] w fun e w' => e = .returned (.int k x) ∧ w' = w
def WAdd (P : Program) (f : FuncId) (k : IntKind) : Prop := IsFun P f ∧ ∀ (b o : Nat) (x y : Int) (w : World), w.cell? ⟨b, o, none⟩ = some (.int k x) → w.frozen? ⟨b, o, none⟩ = false →
  Calls P f #[.pointer (some ⟨b, o, none⟩), .int k y] w fun e w' => e = .returned (.int k (k.wrap (x + y))) ∧ w' = w.setCell ⟨b, o, none⟩ (.int k (k.wrap (x + y)))
def WSwap (P : Program) (f : FuncId) (k : IntKind) : Prop := IsFun P f ∧ ∀ (b o : Nat) (x y : Int) (w : World), w.cell? ⟨b, o, none⟩ = some (.int k x) → w.frozen? ⟨b, o, none⟩ = false →
  Calls P f #[.pointer (some ⟨b, o, none⟩), .int k y] w fun e w' => e = .returned (.int k x) ∧ w' = w.setCell ⟨b, o, none⟩ (.int k y)
def WOnce (P : Program) (f : FuncId) : Prop := IsFun P f ∧
  (∀ (a : Addr) (d : Int), ¬ d = 0 → ∀ (fv : Value) (w : World), w.cell? a = some (.int .u32 d) → Calls P f #[.pointer (some a), fv] w fun e w' => e = .returned (.tuple #[]) ∧ w' = w) ∧
  (∀ (b off : Nat) (g : FuncId) (first caps : Array Value) (Post : World → Prop) (w : World), (∀ w : World, (callFunc g (first ++ caps)).run P w = .ok (.enter g (first ++ caps)) w) →
    w.cell? ⟨b, off, none⟩ = some (.int .u32 0) → w.cell? ⟨b, off + 1, none⟩ = some (.int .i32 0) → w.frozen? ⟨b, off + 1, none⟩ = false →
    (Calls P g (first ++ caps) (w.setCell ⟨b, off + 1, none⟩ (.int .i32 1)) fun e w' => e = .returned (.tuple #[]) ∧ Post w' ∧ (∃ x, w'.cell? ⟨b, off, none⟩ = some x) ∧ w'.frozen? ⟨b, off, none⟩ = false ∧ w'.cell? ⟨b, off + 1, none⟩ = some (.int .i32 1) ∧ w'.frozen? ⟨b, off + 1, none⟩ = false) →
    Calls P f #[.pointer (some ⟨b, off, none⟩), .func (.func g) first caps] w fun e w' => e = .returned (.tuple #[]) ∧ ∃ w1, Post w1 ∧ w' = (w1.drew.setCell ⟨b, off, none⟩ (.int .u32 1)).setCell ⟨b, off + 1, none⟩ (.int .i32 0))
/-! ### places -/
theorem offSh_app : ∀ (q p : List Step) (sh t : Sh) (o o' : Nat), offSh q sh = some o → shP q sh = some t → offSh p t = some o' → offSh (q ++ p) sh = some (o + o')
  | [], p, sh, t, o, o', h1, h2, h3 => by
    simp only [offSh, Option.some.injEq] at h1
    simp only [shP, Option.some.injEq] at h2
    subst h1; subst h2
    rw [List.nil_append, h3, Nat.zero_add]
  | .fld n :: q, p, .agg l, t, o, o', h1, h2, h3 => by
    simp only [List.cons_append, offSh, shP] at h1 h2 ⊢
    cases hl : l[n]? with
    | none => simp [hl] at h1
    | some s =>
      simp only [hl] at h1 h2 ⊢
      cases hq : offSh q s with
      | none => simp [hq] at h1
      | some o1 =>
        simp only [hq, Option.map_some, Option.some.injEq] at h1
        rw [offSh_app q p s t o1 o' hq h2 h3]
        simp only [Option.map_some, Option.some.injEq]
        omega
  | .idx i :: q, p, .arr n e, t, o, o', h1, h2, h3 => by
    simp only [List.cons_append, offSh, shP] at h1 h2 ⊢
    split at h1
    · rename_i hi
      rw [if_pos hi]
      cases hq : offSh q e with
      | none => simp [hq] at h1
      | some o1 =>
        simp only [hq, Option.map_some, Option.some.injEq] at h1
        rw [offSh_app q p e t o1 o' hq h2 h3]
        simp only [Option.map_some, Option.some.injEq]
        omega
    · cases h1
  | .fld n :: q, p, .one, t, o, o', h1, h2, h3 => by simp [offSh] at h1
  | .fld n :: q, p, .arr _ _, t, o, o', h1, h2, h3 => by simp [offSh] at h1
  | .idx i :: q, p, .one, t, o, o', h1, h2, h3 => by simp [offSh] at h1
  | .idx i :: q, p, .agg _, t, o, o', h1, h2, h3 => by simp [offSh] at h1
theorem off_app {N : Names} {D : Nat → Prop} {w : World} {s : St} (S : Sim N D w base s.h) {i : Nat} {q p : List Step} {t : Sh} {nm : Nm} {o o' : Nat} (hn : N i = some nm) (hs : s.shape i q = some t) (ho : nm.off q = some o) (hp : offSh p t = some o') : nm.off (q ++ p) = some (o + o') := by
  unfold St.shape at hs
  split at hs
  · rename_i v hv
    obtain ⟨nm', a, e1, _, e3, e4, _⟩ := S.obj i _ hv
    rw [hn] at e1; cases e1
    have key : ∀ x : List Step, nm.off x = offSh x nm.sh := fun x => by unfold Nm.off; split <;> simp [e3]
    rw [key] at ho ⊢
    rw [e4] at ho ⊢
    exact offSh_app q p _ t o o' ho hs hp
  · rename_i ro ty xs hv
    obtain ⟨nm', e1, e2, e3, _⟩ := S.obj i _ hv
    rw [hn] at e1; cases e1
    split at hs
    · rename_i j q'
      simp only [List.cons_append, Nm.off, e2, if_true] at ho ⊢
      split at ho
      · rename_i hj
        rw [if_pos hj]
        cases hq : offSh q' nm.sh with
        | none => simp [hq] at ho
        | some o1 =>
          simp only [hq, Option.map_some, Option.some.injEq] at ho
          rw [offSh_app q' p nm.sh t o1 o' hq (by rw [e3]; exact hs) hp]
          simp only [Option.map_some, Option.some.injEq]
          omega
      · cases ho
    · cases hs
  · cases hs
/-- what intAt tells -/
theorem intAt_sound {st : St} {i : Nat} {q p : List Step} {off : Nat} {kd : IntKind} {k : Int → Option α} {r : α} (h : intAt st i q p off kd k = some r) :
    ∃ x, k x = some r ∧ ∀ N D w, Sim N D w base st.h → ∀ nm a o, N i = some nm → nm.base = some a → nm.off q = some o → a.spot = none ∧ nm.off (q ++ p) = some (o + off) ∧ w.cell? ⟨a.block, a.off + o + off, none⟩ = some (.int kd x) := by
  unfold intAt at h
  obtain ⟨u, h1, h2, _⟩ := get_sound h
  split at h1
  · rename_i hoff
    simp only [decide_eq_true_eq] at hoff
    obtain ⟨v, h4, h5, h6⟩ := get_sound h1
    split at h4
    · rename_i k' x
      split at h4
      · rename_i hk
        simp only [decide_eq_true_eq] at hk
        subst hk
        refine ⟨x, h4, fun N D w S nm a o hn hb ho => ?_⟩
        have ho2 := off_app S hn h2 ho hoff
        obtain ⟨g1, g2, _⟩ := h6 N D w base S nm a _ hn hb ho2
        refine ⟨g1, ho2, ?_⟩
        simp only [RelAt, cellsAt] at g2
        rw [show a.off + (o + off + 0) = a.off + o + off by omega] at g2
        exact g2
      · cases h4
    · cases h4
  · cases h1
theorem VRel_int {N : Names} {D : Nat → Prop} {w : World} (k : IntKind) (x : Int) : VRel N D w (.val (.int k x)) (.int k x) := VRel_val.2 rfl
theorem sizes_int (k : IntKind) (x : Int) : (AV.val (.int k x)).size = 1 := rfl
/-- an integer is written -/
theorem put_int {s : St} {i : Nat} {p : List Step} {kd : IntKind} {x : Int} {k : St → Option α} {r : α} (h : s.store i p (.val (.int kd x)) k = some r) :
    ∃ s', k s' = some r ∧ s'.t = s.t ∧ s'.nt = s.nt ∧ s'.ep = s.ep ∧ (∀ j, j ≠ i → s'.h j = s.h j) ∧ ∀ N D w, Sim N D w base s.h → ∀ nm a o, N i = some nm → nm.base = some a → nm.off p = some o →
      w.frozen? ⟨a.block, a.off + o, none⟩ = false ∧ (∃ y, w.cell? ⟨a.block, a.off + o, none⟩ = some y) ∧ ∃ D', Sim N D' (w.setCell ⟨a.block, a.off + o, none⟩ (.int kd x)) base s'.h ∧ Ext N D w s.h N D' (w.setCell ⟨a.block, a.off + o, none⟩ (.int kd x)) s'.h := by
  obtain ⟨s', h1, h2, h3, h4, h5, h6⟩ := store_sound h rfl
  refine ⟨s', h1, h2, h3, h4, fun j hj => h5 j hj (by simp [AV.ids]), fun N D w S nm a o hn hb ho => ?_⟩
  obtain ⟨g1, ⟨cs, ty, fz, g2, g3, g4⟩, D', g5, g6⟩ := h6 N D w base S nm a o (.int kd x) hn hb ho (VRel_int kd x)
  rw [sizes_int] at g4
  have hc := cells_isSome g2 (o := a.off + o) (by omega)
  refine ⟨not_frozen g2 g3 (by omega), Option.isSome_iff_exists.1 hc, D', ?_⟩
  exact ⟨g5, g6⟩
theorem ptr_arg {N : Names} {D : Nat → Prop} {w : World} {i : Nat} {q : List Step} {l : List AV} {cargs : List Value} (h : RelEach N D w (.ptr i q :: l) cargs) : ∃ nm a o rest, N i = some nm ∧ nm.base = some a ∧ nm.off q = some o ∧ cargs = .pointer (some ⟨a.block, a.off + o, none⟩) :: rest ∧ RelEach N D w l rest := by
  simp only [RelEach] at h
  obtain ⟨c, cs, rfl, h1, h2⟩ := h
  obtain ⟨nm, a, o, g1, g2, g3, g4⟩ := VRel_ptr.1 h1
  exact ⟨nm, a, o, cs, g1, g2, g3, by rw [g4]; rfl, h2⟩
def PrimOK (P : Program) (base : Nat) (calls : List (Nat × FCon)) (f : FuncId) (pr : Prim) : Prop := ∀ (α : Type) (args : List AV) (st : St) (fresh : Nat) (k : AV → St → Option α) (r : α), fresh % 100 = 0 → primBy calls pr args st fresh k = some r →
  ∃ av st', k av st' = some r ∧ CallOK P base (primFp calls pr args st).2 f args st fresh av st'
theorem prim_load {calls : List (Nat × FCon)} {f : FuncId} {kd : IntKind} {p : List Step} (hw : WLoad P f kd) : PrimOK P base calls f (.load kd p) := by
  intro α args st fresh k r _ h
  unfold primBy at h
  split at h <;> first | (rename_i heq; cases heq) | skip
  all_goals first | cases h | skip
  rename_i i q
  obtain ⟨x, h1, h2⟩ := intAt_sound (base := base) h
  refine ⟨_, _, h1, hw.1, rfl, rfl, rfl, fun _ _ _ => rfl, fun N D w S cargs hc => ?_⟩
  obtain ⟨nm, a, o, rest, g1, g2, g3, rfl, g5⟩ := ptr_arg hc
  simp only [RelEach] at g5; subst g5
  obtain ⟨_, _, hcell⟩ := h2 N D w S nm a o g1 g2 g3
  refine (hw.2 _ _ _ _ hcell).mono fun e w' he => ?_
  obtain ⟨rfl, rfl⟩ := he
  exact ⟨N, D, Ext.refl _ _ _ _, S, VRel_int _ _⟩
theorem int_arg {N : Names} {D : Nat → Prop} {w : World} {k : IntKind} {y : Int} {rest : List Value} (h : RelEach N D w [.val (.int k y)] rest) : rest = [.int k y] := by
  simp only [RelEach] at h
  obtain ⟨c, cs, rfl, h1, rfl⟩ := h
  rw [VRel_val.1 h1]
theorem prim_add {calls : List (Nat × FCon)} {f : FuncId} {kd : IntKind} {p : List Step} (hw : WAdd P f kd) : PrimOK P base calls f (.add kd p) := by
  intro α args st fresh k r _ h
  unfold primBy at h
  split at h <;> first | (rename_i heq; cases heq) | skip
  all_goals first | cases h | skip
  rename_i i q k' y
  split at h
  · rename_i hk
    simp only [decide_eq_true_eq] at hk
    subst hk
    obtain ⟨x, h1, h2⟩ := intAt_sound (base := base) h
    obtain ⟨st', h3, h4, h5, h6, h7, h8⟩ := put_int (base := base) h1
    refine ⟨_, _, h3, hw.1, h4, h5, h6, fun j hj _ => h7 j (fun e => hj (by subst e; simp [primFp])), fun N D w S cargs hc => ?_⟩
    obtain ⟨nm, a, o, rest, g1, g2, g3, rfl, g5⟩ := ptr_arg hc
    rw [int_arg g5]
    obtain ⟨_, hoff, hcell⟩ := h2 N D w S nm a o g1 g2 g3
    rw [Nat.add_zero] at hoff hcell
    obtain ⟨z1, _, D', z2, z3⟩ := h8 N D w S nm a o g1 g2 hoff
    refine (hw.2 _ _ _ _ _ hcell z1).mono fun e w' he => ?_
    obtain ⟨rfl, rfl⟩ := he
    rw [← wr_eq]
    exact ⟨N, D', z3, z2, VRel_int _ _⟩
  · cases h
theorem prim_swap {calls : List (Nat × FCon)} {f : FuncId} {kd : IntKind} {p : List Step} (hw : WSwap P f kd) : PrimOK P base calls f (.swap kd p) := by
  intro α args st fresh k r _ h
  unfold primBy at h
  split at h <;> first | (rename_i heq; cases heq) | skip
  all_goals first | cases h | skip
  rename_i i q k' y
  split at h
  · rename_i hk
    simp only [decide_eq_true_eq] at hk
    subst hk
    obtain ⟨x, h1, h2⟩ := intAt_sound (base := base) h
    obtain ⟨st', h3, h4, h5, h6, h7, h8⟩ := put_int (base := base) h1
    refine ⟨_, _, h3, hw.1, h4, h5, h6, fun j hj _ => h7 j (fun e => hj (by subst e; simp [primFp])), fun N D w S cargs hc => ?_⟩
    obtain ⟨nm, a, o, rest, g1, g2, g3, rfl, g5⟩ := ptr_arg hc
    rw [int_arg g5]
    obtain ⟨_, hoff, hcell⟩ := h2 N D w S nm a o g1 g2 g3
    rw [Nat.add_zero] at hoff hcell
    obtain ⟨z1, _, D', z2, z3⟩ := h8 N D w S nm a o g1 g2 hoff
    refine (hw.2 _ _ _ _ _ hcell z1).mono fun e w' he => ?_
    obtain ⟨rfl, rfl⟩ := he
    exact ⟨N, D', z3, z2, VRel_int _ _⟩
  · cases h
end AM
namespace AM
open Go
variable {α : Type} {P : Program} {base : Nat}
theorem Sim.drew {N : Names} {D : Nat → Prop} {w : World} {h : Nat → Option AObj} (S : Sim N D w base h) : Sim N D w.drew base h ∧ Ext N D w h N D w.drew h :=
  ⟨⟨fun i o hi => ObjAt_congr (S.obj i o hi) (fun _ _ h => h) (fun _ h => h) (fun _ _ => rfl) (fun _ _ _ _ _ => ⟨rfl, fun h => h⟩), S.apart, S.frozen, S.named, S.size⟩,
    fun _ _ h => h, fun _ h => h, rfl, rfl, rfl, Nat.le_refl _, fun _ _ _ => rfl, fun _ _ h => h, fun _ h => .inl h, fun _ _ h => .inl h, fun _ h => h⟩
theorem cloArgs_rel {N : Names} {D : Nat → Prop} {w : World} {cv : AV} {g : FuncId} {cs : List AV} {c : Value} (h : cloArgs cv = some (g, cs)) (hv : VRel N D w cv c) : ∃ first caps : Array Value, c = .func (.func g) first caps ∧ RelEach N D w cs (first ++ caps).toList := by
  unfold cloArgs at h
  split at h
  · cases h
    unfold VRel at hv
    simp only [AV.isAgg, vrel, RelAt] at hv
    obtain ⟨cc, q1, q2⟩ := hv
    simp only [Option.some.injEq] at q1
    exact ⟨#[], cc, q1, by simpa using q2⟩
  · cases h
    unfold VRel at hv
    simp only [AV.isAgg, vrel, RelAt] at hv
    obtain ⟨cc, q1, q2⟩ := hv
    simp only [Option.some.injEq] at q1
    exact ⟨cc, #[], q1, by simpa using q2⟩
  · cases h
theorem prim_once {calls : List (Nat × FCon)} {f : FuncId} {pd pm : List Step} (hw : WOnce P f) (hcs : CallsOK P base calls) : PrimOK P base calls f (.once pd pm) := by
  intro α args st fresh k r h100 h
  unfold primBy at h
  split at h <;> first | (rename_i heq; cases heq) | skip
  all_goals first | cases h | skip
  rename_i i q cv
  split at h
  · cases h
  rename_i g cs hcv
  obtain ⟨d, h1, h2⟩ := intAt_sound (base := base) h
  split at h1
  · rename_i hd
    have hd0 : ¬ d = 0 := fun e => by rw [odec_iff.2 e] at hd; cases hd
    refine ⟨_, _, h1, hw.1, rfl, rfl, rfl, fun _ _ _ => rfl, fun N D w S cargs hc => ?_⟩
    obtain ⟨nm, a, o, rest, g1, g2, g3, rfl, g5⟩ := ptr_arg hc
    obtain ⟨c1, cs1, rfl, _, hr⟩ : ∃ c1 cs1, rest = c1 :: cs1 ∧ VRel N D w cv c1 ∧ RelEach N D w [] cs1 := by unfold RelEach at g5; exact g5
    simp only [RelEach] at hr; subst hr
    obtain ⟨_, _, hcell⟩ := h2 N D w S nm a o g1 g2 g3
    rw [Nat.add_zero] at hcell
    refine (hw.2.1 _ d hd0 c1 w hcell).mono fun e w' he => ?_
    obtain ⟨rfl, rfl⟩ := he
    exact ⟨N, D, Ext.refl _ _ _ _, S, VRel_tup.2 ⟨#[], rfl, by simp only [RelEach]⟩⟩
  · rename_i hd
    have hd0 := odec_iff.1 hd
    subst hd0
    obtain ⟨m, h3, h4⟩ := intAt_sound (base := base) h1
    split at h3
    · cases h3
    rename_i hm
    have hm0 := odec_iff.1 hm
    subst hm0
    split at h3
    · rename_i st1 c hst1 hc
      obtain ⟨s', e1, t1, t2, t3, t4, t5⟩ := put_int (base := base) hst1
      cases e1
      obtain ⟨hok, hF⟩ := hcs _ (lookN_mem hc)
      obtain ⟨av, st2, h5, hcall⟩ := callBy_sound h3 hok hF h100
      obtain ⟨⟨fn, f1, f2, f3⟩, c1, c2, c3, c4, c5⟩ := hcall
      split at h5
      · obtain ⟨d2, h6, h7⟩ := intAt_sound (base := base) h5
        obtain ⟨m2, h8, h9⟩ := intAt_sound (base := base) h6
        split at h8
        · rename_i hm2
          have hm20 := odec_iff.1 hm2
          subst hm20
          obtain ⟨st3, h10, u1, u2, u3, u4, u5⟩ := put_int (base := base) h8
          obtain ⟨st4, h11, v1, v2, v3, v4, v5⟩ := put_int (base := base) h10
          refine ⟨_, _, h11, hw.1, by rw [v1, u1, c1, t1], by rw [v2, u2, c2, t2], by rw [v3, u3, c3, t3], fun j hj hj2 => ?_, fun N D w S cargs hcr => ?_⟩
          · simp only [primFp, hcv, hst1, hc, List.mem_cons, not_or] at hj
            rw [v4 j hj.1, u4 j hj.1, c4 j hj.2 hj2, t4 j hj.1]
          · obtain ⟨nm, a, o, rest, g1, g2, g3, rfl, g5⟩ := ptr_arg hcr
            obtain ⟨cl, cs1, rfl, hcl, hr⟩ : ∃ c1 cs1, rest = c1 :: cs1 ∧ VRel N D w cv c1 ∧ RelEach N D w [] cs1 := by unfold RelEach at g5; exact g5
            simp only [RelEach] at hr; subst hr
            obtain ⟨first, caps, rfl, q2⟩ := cloArgs_rel hcv hcl
            obtain ⟨_, hoffd, hcd⟩ := h2 N D w S nm a o g1 g2 g3
            obtain ⟨_, hoffm, hcm⟩ := h4 N D w S nm a o g1 g2 g3
            rw [Nat.add_zero] at hoffd hcd
            obtain ⟨z1, _, D1, S1, X1⟩ := t5 N D w S nm a (o + 1) g1 g2 hoffm
            rw [← Nat.add_assoc] at z1 S1 X1
            have hg : ∀ w : World, (callFunc g (first ++ caps)).run P w = .ok (.enter g (first ++ caps)) w := by
              intro w
              simp only [callFunc, Sem.run_bind, run_program, Result.andThen_ok, f1, f3, f2, Bool.false_eq_true, if_false, Sem.run_pure]
            have hq2 : RelEach N D1 (w.setCell ⟨a.block, a.off + o + 1, none⟩ (.int .i32 1)) cs (first ++ caps).toList := RelEach_mono X1.names X1.frozen (X1.keepD S) _ _ q2
            have hin := c5 N D1 _ S1 (first ++ caps).toList hq2
            refine (hw.2.2 a.block (a.off + o) g first caps (fun w1 => ∃ N' D', Ext N D w st.h N' D' w1 st2.h ∧ Sim N' D' w1 base st2.h) w hg hcd hcm z1 (hin.mono fun e w1 he => ?_)).mono fun e w' he => ?_
            · cases e with
              | returned v =>
                obtain ⟨N', D', x2, s2, hv⟩ := he
                obtain ⟨l, rfl, hl⟩ := VRel_tup.1 hv
                simp only [RelEach] at hl
                obtain rfl : l = #[] := by apply Array.ext'; simpa using hl
                have g1' := x2.names i nm g1
                obtain ⟨_, hoffd', hcd'⟩ := h7 N' D' w1 s2 nm a o g1' g2 g3
                obtain ⟨_, hoffm', hcm'⟩ := h9 N' D' w1 s2 nm a o g1' g2 g3
                rw [Nat.add_zero] at hoffd' hcd'
                obtain ⟨y1, _, D3, S3, X3⟩ := u5 N' D' w1 s2 nm a o g1' g2 hoffd'
                refine ⟨rfl, ⟨N', D', X1.trans x2, s2⟩, ⟨_, hcd'⟩, y1, hcm', ?_⟩
                obtain ⟨y2, _, _⟩ := v5 N' D3 _ S3 nm a (o + 1) g1' g2 hoffm'
                rw [← Nat.add_assoc] at y2
                rw [World.frozen?_setCell] at y2
                exact y2
              | panicked c => exact he.elim
              | outgrown => exact he.elim
            · obtain ⟨rfl, w1, ⟨N', D', x2, s2⟩, rfl⟩ := he
              have g1' := x2.names i nm g1
              obtain ⟨_, hoffd', _⟩ := h7 N' D' w1 s2 nm a o g1' g2 g3
              obtain ⟨_, hoffm', _⟩ := h9 N' D' w1 s2 nm a o g1' g2 g3
              rw [Nat.add_zero] at hoffd'
              obtain ⟨s3, x3⟩ := s2.drew
              obtain ⟨_, _, D3, S3, X3⟩ := u5 N' D' _ s3 nm a o g1' g2 hoffd'
              obtain ⟨_, _, D4, S4, X4⟩ := v5 N' D3 _ S3 nm a (o + 1) g1' g2 hoffm'
              rw [← Nat.add_assoc] at S4 X4
              exact ⟨N', D4, ((x2.trans x3).trans X3).trans X4, S4, VRel_tup.2 ⟨#[], rfl, by simp only [RelEach]⟩⟩
        · cases h8
      · cases h5
    · cases h3
/-! ### environments with prims -/
def PrimsOK (P : Program) (base : Nat) (calls : List (Nat × FCon)) (prims : List (Nat × Prim)) : Prop := ∀ p ∈ prims, PrimOK P base calls p.1 p.2
theorem env_callsP {prims : List (Nat × Prim)} {calls : List (Nat × FCon)} {loops : List (Nat × List LCon)} (hp : PrimsOK P base calls prims) (h : CallsOK P base calls) : EnvCalls P base (mkEnvP (α := α) prims calls loops) := by
  intro f args st fresh k r h100 hc
  simp only [mkEnvP] at hc ⊢
  cases hf : lookN f prims with
  | none => rw [hf] at hc; exact env_calls h f args st fresh k r h100 hc
  | some pr => rw [hf] at hc; exact hp _ (lookN_mem hf) α args st fresh k r h100 hc
theorem env_loopsP {fn : Func} {prims : List (Nat × Prim)} {calls : List (Nat × FCon)} {loops : List (Nat × List LCon)} (h : LoopsAre P base fn loops) : EnvLoops P base fn (mkEnvP (α := α) prims calls loops) := fun id st k r hc => env_loops (calls := calls) h id st k r hc
theorem fun_conP {f : FuncId} {fn : Func} {sp : FSpec} {F : sp.pre.den → Option (exdens sp.exits)} {prims : List (Nat × Prim)} {calls : List (Nat × FCon)} {loops : List (Nat × List LCon)} (h1 : P.funcs[f]? = some fn) (h2 : (fn.name == "runtime.NumGoroutine") = false) (h3 : funB fn sp = true)
    (hm : P.follows .mixedOrders = true) (hp : PrimsOK P base calls prims) (hc : CallsOK P base calls) (hl : LoopsAre P base fn loops) (hF : ∀ d, funBody P sp (mkEnvP prims calls loops) fn d = F d) : FunOK P base f sp F :=
  fun_ok (FunIs.of h1 h2 h3) hm (env_callsP hp hc) (env_loopsP hl) hF
theorem loop_conP {fn : Func} {id : Nat} {sp : LSpec} {F : sp.pre.den → Option (sp.pre.den ⊕ exdens sp.exits)} {prims : List (Nat × Prim)} {calls : List (Nat × FCon)} {loops : List (Nat × List LCon)} (hok : sp.ok = true) (hb : bodyB fn = true)
    (hm : P.follows .mixedOrders = true) (hp : PrimsOK P base calls prims) (hc : CallsOK P base calls) (hl : LoopsAre P base fn loops) (hF : ∀ d, loopBody P sp (mkEnvP prims calls loops) fn id d = F d) : RoundOK P base fn id sp F :=
  round_ok hok (loopAt_ok hb id).1 (loopAt_ok hb id).2 hm (env_callsP hp hc) (env_loopsP hl) hF
theorem prims_nil {calls : List (Nat × FCon)} : PrimsOK P base calls [] := fun p hp => by simp at hp
theorem prims_cons {calls : List (Nat × FCon)} {p : Nat × Prim} {l : List (Nat × Prim)} (h1 : PrimOK P base calls p.1 p.2) (h : PrimsOK P base calls l) : PrimsOK P base calls (p :: l) := List.forall_mem_cons.2 ⟨h1, h⟩
end AM

/- Plain data out of a reading of the arguments. -/
namespace AM
open Go Go.RowKit Go.ChangeShapes Go.WideShapes
/-- bytes, at least -/
def Ty.bytes : Ty → Nat
  | .int k => k.bits / 8 | .bool => 1 | .str => 16 | .nil => 0 | .cons a b => a.bytes + b.bytes | .arr n t => n * t.bytes | .deep _ => 24
mutual
def tyFit (P : Program) : Nat → TypeId → Ty → Bool
  | 0, _, _ => false
  | n + 1, t, te => decide (P.cellsOf t = te.size) && (match P.underlying t, te with
    | some (.int k), .int k' => decide (k = k')
    | some .bool, .bool => true
    | some .string, .str => true
    | some (.slice e), .deep te => tyFit P n e te && decide (1 ≤ te.size) && decide (te.bytes ≤ P.bytesOf e)
    | some (.array m e), .arr m' te => decide (m = m') && tyFit P n e te
    | some (.struct fs), te => fitFs P n fs.toList 0 te
    | _, _ => false)
def fitFs (P : Program) : Nat → List Field → Nat → Ty → Bool
  | 0, _, _, _ => false
  | _ + 1, [], _, .nil => true
  | n + 1, f :: fs, off, .cons a b => decide (f.offset = off) && tyFit P n f.type a && fitFs P n fs (off + a.size) b
  | _ + 1, _, _, _ => false
end
def InR (k : IntKind) (n : Int) : Prop := k.min ≤ n ∧ n ≤ k.max
def lmem {β : Type} (x : β) (xs : List β) : Prop := x ∈ xs
def Rng : (t : Ty) → t.den → Prop
  | .int k, n => InR k n
  | .str, s => ByteArray.size s ≤ 140737488351232
  | .cons a b, p => Rng a p.1 ∧ Rng b p.2
  | .arr n t, xs => llen (β := t.den) xs = n ∧ ∀ x : t.den, lmem (β := t.den) x xs → Rng t x
  | .deep t, xs => llen (β := t.den) xs * t.bytes ≤ 140737488351232 ∧ ∀ x : t.den, lmem (β := t.den) x xs → Rng t x
  | _, _ => True
theorem choose_list {β : Type} {Q : Nat → β → Prop} : ∀ (n : Nat), (∀ i, i < n → ∃ x, Q i x) → ∃ xs : List β, xs.length = n ∧ ∀ i x, xs[i]? = some x → Q i x
  | 0, _ => ⟨[], rfl, fun i x h => by simp at h⟩
  | n + 1, h => by
    obtain ⟨xs, h1, h2⟩ := choose_list n fun i hi => h i (by omega)
    obtain ⟨x, hx⟩ := h n (by omega)
    refine ⟨xs ++ [x], by simp [h1], fun i y hy => ?_⟩
    rw [List.getElem?_append] at hy
    split at hy
    · exact h2 i y hy
    · rename_i hi
      have : i = n := by
        have := (List.getElem?_eq_some_iff.1 hy).1
        simp at this; omega
      subst this
      simp [h1] at hy
      subst hy; exact hx
theorem mem_of_get {β : Type} {Q : β → Prop} {xs : List β} (h : ∀ (i : Nat) (x : β), xs[i]? = some x → Q x) : ∀ x, lmem x xs → Q x := by
  intro x hx
  obtain ⟨i, hi⟩ := List.getElem?_of_mem hx
  exact h i x hi
section
variable {H : Type} {enc : TypeId × Value → H} {P : Program} {w : World} {D : Nat → Prop}
def Small (l : List Nat) : Prop := ∀ n ∈ l, n ≤ reachBytes
theorem Small.left {a b : List Nat} (h : Small (a ++ b)) : Small a := fun n hn => h n (List.mem_append_left _ hn)
theorem Small.right {a b : List Nat} (h : Small (a ++ b)) : Small b := fun n hn => h n (List.mem_append_right _ hn)
theorem small_all {e : TypeId} : ∀ {l : List (DataW H)} {i : Nat} {d : DataW H}, Small (DataW.weightsAll P e l) → l[i]? = some d → Small (d.weights P e)
  | [], _, _, _, h => by simp at h
  | x :: xs, 0, d, h, hd => by
    simp at hd; subst hd
    simp only [DataW.weightsAll] at h
    exact h.left
  | x :: xs, i + 1, d, h, hd => by
    simp only [DataW.weightsAll] at h
    exact small_all h.right (by simpa using hd)
theorem read_list {m fuel : Nat} {e : TypeId} {te : Ty} (ih : ∀ (cs : List Value) (x : DataW H × List MemPlace), DataW.trod enc P w 0 (fun _ => true) true fuel e cs = some x → Small (x.1.weights P e) → ∃ y : te.den, TRel D w te y (cs[·]?) ∧ Rng te y ∧ cs.length = te.size)
    {xs : List (DataW H × List MemPlace)} (hl : xs.length = m) (hs : Small (DataW.weightsAll P e (xs.map (·.1)))) {f : Nat → Option (List Value)} (hf : ∀ i, i < m → (f i).bind (DataW.trod enc P w 0 (fun _ => true) true fuel e) = xs[i]?) :
    ∃ ys : List te.den, ys.length = m ∧ ∀ i y, ys[i]? = some y → ∃ cs, f i = some cs ∧ TRel D w te y (cs[·]?) ∧ Rng te y ∧ cs.length = te.size := by
  refine choose_list m fun i hi => ?_
  have h1 := hf i hi
  rw [List.getElem?_eq_getElem (by omega)] at h1
  obtain ⟨cs, h2, h3⟩ := Option.bind_eq_some_iff.1 h1
  obtain ⟨y, g⟩ := ih cs _ h3 (small_all hs (i := i) (by simp [hl, hi]))
  exact ⟨y, cs, h2, g⟩
theorem trod_read (hD : ∀ b, b < w.heap.size → D b) : ∀ (m : Nat),
    (∀ (t : TypeId) (te : Ty) (fuel : Nat) (cs : List Value) (x : DataW H × List MemPlace), tyFit P m t te = true → DataW.trod enc P w 0 (fun _ => true) true fuel t cs = some x → Small (x.1.weights P t) → ∃ y : te.den, TRel D w te y (cs[·]?) ∧ Rng te y ∧ cs.length = te.size) ∧
    (∀ (fs : List Field) (off : Nat) (te : Ty) (fuel : Nat) (cs : List Value) (xs : List (DataW H × List MemPlace)), fitFs P m fs off te = true → (∀ (i : Nat) (f : Field), fs[i]? = some f → DataW.trod enc P w 0 (fun _ => true) true fuel f.type ((cs.drop f.offset).take (P.cellsOf f.type)) = xs[i]?) → xs.length = fs.length → Small (DataW.weightsEach P (fs.map (·.type)) (xs.map (·.1))) → ∃ y : te.den, TRel D w te y (fun j => cs[off + j]?) ∧ Rng te y)
  | 0 => ⟨fun t te fuel cs x h => by simp [tyFit] at h, fun fs off te fuel cs xs h => by simp [fitFs] at h⟩
  | m + 1 => by
    obtain ⟨ih1, ih2⟩ := trod_read hD m
    refine ⟨fun t te fuel cs x hfit h hs => ?_, fun fs off te fuel cs xs hfit h hl hs => ?_⟩
    · unfold tyFit at hfit
      simp only [Bool.and_eq_true, decide_eq_true_eq] at hfit
      obtain ⟨hcells, hfit⟩ := hfit
      split at hfit
      · rename_i k k' hu
        simp only [decide_eq_true_eq] at hfit
        subst hfit
        obtain ⟨n, rfl, rfl, hw⟩ := DataW.trod_int hu h
        simp only [Lit.wf, Bool.and_eq_true, decide_eq_true_eq] at hw
        exact ⟨n, rfl, hw, rfl⟩
      · rename_i hu
        obtain ⟨b, rfl, rfl⟩ := DataW.trod_bool hu h
        exact ⟨b, rfl, trivial, rfl⟩
      · rename_i hu
        obtain ⟨s, rfl, rfl, _⟩ := DataW.trod_string hu h
        refine ⟨s, rfl, ?_, rfl⟩
        have := hs s.data.toList.length (by simp [DataW.weights])
        show s.size ≤ 140737488351232
        have e : s.data.toList.length = s.size := by simp
        rw [e] at this
        exact this
      · rename_i e te hu
        simp only [Bool.and_eq_true, decide_eq_true_eq] at hfit
        obtain ⟨⟨hfe, h1⟩, hby⟩ := hfit
        rcases DataW.trod_slice hu h with ⟨rfl, rfl⟩ | ⟨a, len, cap, elems, rest, n, rfl, rfl, rfl, _, hlc, _, hel, hget, _⟩
        · refine ⟨([] : List te.den), ⟨none, 0, rfl, Nat.le_refl _, fun _ => rfl, by intro ad ha; cases ha⟩, ⟨by simp [llen], fun x hx => by simp [lmem] at hx⟩, rfl⟩
        · simp only [DataW.weights, hu] at hs
          have hce : P.cellsOf e = te.size := by
            cases m with
            | zero => simp [tyFit] at hfe
            | succ m => unfold tyFit at hfe; simp only [Bool.and_eq_true, decide_eq_true_eq] at hfe; exact hfe.1
          obtain ⟨ys, g1, g2⟩ := read_list (fun cs x hx hsm => ih1 e te n cs x hfe hx hsm) hel (fun q hq => hs q (List.mem_cons_of_mem _ (List.mem_append_left _ hq))) hget
          have hlen : llen (β := te.den) ys = len := g1
          have hbytes := hs _ (List.mem_cons_self ..)
          have hspot : len ≠ 0 → a.spot = none := by
            intro hne
            have h0 : ys[0]? = some (ys[0]'(by omega)) := List.getElem?_eq_getElem (by omega)
            obtain ⟨cs, c1, _, _, c4⟩ := g2 0 _ h0
            obtain ⟨_, c5, c6⟩ := World.cells?_some c1
            have c7 := c6 0 (by omega)
            rw [List.getElem?_eq_getElem (by omega)] at c7
            simp only [Nat.zero_mul, Addr.add, if_true] at c7
            unfold World.cell? at c7
            split at c7
            · split at c7
              · cases c7
              · rename_i hsp
                simpa using hsp
            · cases c7
          refine ⟨(ys : List te.den), ⟨some a, cap, by rw [hlen]; rfl, by rw [hlen]; exact hlc, (by intro e'; cases e'), fun ad had hne => ?_⟩, ⟨?_, ?_⟩, rfl⟩
          · cases had
            rw [hlen] at hne
            have hsp := hspot hne
            refine ⟨hsp, ?_, fun i y hy => ?_⟩
            · have h0 : ys[0]? = some (ys[0]'(by omega)) := List.getElem?_eq_getElem (by omega)
              obtain ⟨cs, c1, _, _, c4⟩ := g2 0 _ h0
              simp only [Nat.zero_mul, Addr.add, if_true] at c1
              exact hD _ (World.cells?_block c1 (by omega))
            · obtain ⟨cs, c1, c2, _, c4⟩ := g2 i y hy
              obtain ⟨_, c5, c6⟩ := World.cells?_some c1
              refine TRel_congr te y _ _ (fun j hj => ?_) c2
              rw [← c6 j (by omega)]
              obtain ⟨b, o, sp⟩ := a
              simp only at hsp
              subst hsp
              simp only [cellsAt, addr_add, hce, Nat.add_assoc]
          · show llen (β := te.den) ys * te.bytes ≤ 140737488351232
            rw [hlen]
            have h2 : len * te.bytes ≤ (elems.length + rest.length) * P.bytesOf e := Nat.mul_le_mul (by omega) hby
            simp only [List.length_map] at hbytes
            exact Nat.le_trans h2 hbytes
          · exact mem_of_get fun i y hy => (g2 i y hy).elim fun cs hcs => hcs.2.2.1
      · rename_i n e n' te hu
        simp only [Bool.and_eq_true, decide_eq_true_eq] at hfit
        obtain ⟨rfl, hfe⟩ := hfit
        obtain ⟨xs, k, rfl, rfl, hlen, hxl, hget⟩ := DataW.trod_array hu h
        simp only [DataW.weights, hu] at hs
        have hce : P.cellsOf e = te.size := by
          cases m with
          | zero => simp [tyFit] at hfe
          | succ m => unfold tyFit at hfe; simp only [Bool.and_eq_true, decide_eq_true_eq] at hfe; exact hfe.1
        obtain ⟨ys, g1, g2⟩ := read_list (f := fun i => some ((cs.drop (i * P.cellsOf e)).take (P.cellsOf e))) (fun cs x hx hsm => ih1 e te k cs x hfe hx hsm) hxl hs (fun i hi => by simpa using hget i hi)
        refine ⟨(ys : List te.den), ⟨g1, fun i y hy => ?_⟩, ⟨g1, ?_⟩, by rw [hlen, hcells]⟩
        · obtain ⟨cs', c1, c2, _, c4⟩ := g2 i y hy
          cases c1
          refine TRel_congr te y _ _ (fun j hj => ?_) c2
          simp only
          rw [List.getElem?_take, if_pos (by omega), List.getElem?_drop, hce]
        · exact mem_of_get fun i y hy => (g2 i y hy).elim fun cs hcs => hcs.2.2.1
      · rename_i fs hu
        obtain ⟨xs, k, rfl, rfl, hlen, hxl, hget⟩ := DataW.trod_struct hu h
        simp only [DataW.weights, hu] at hs
        obtain ⟨y, g1, g2⟩ := ih2 fs.toList 0 _ k cs xs hfit (fun i f hf => hget i f (by simpa using hf)) (by simpa using hxl) (by simpa using hs)
        exact ⟨y, by simpa using g1, g2, by rw [hlen, hcells]⟩
      · cases hfit
    · unfold fitFs at hfit
      split at hfit
      · cases hfit
      · exact ⟨(), trivial, trivial⟩
      · rename_i off _ n f fs a b he
        obtain rfl : m = n := Nat.succ.inj he
        cases xs with
        | nil => simp at hl
        | cons x xs =>
          simp only [Bool.and_eq_true, decide_eq_true_eq] at hfit
          obtain ⟨⟨rfl, hfa⟩, hfb⟩ := hfit
          simp only [List.map_cons, DataW.weightsEach] at hs
          have h0 := h 0 f rfl
          simp only [List.getElem?_cons_zero] at h0
          have hca : P.cellsOf f.type = a.size := by
            cases m with
            | zero => simp [tyFit] at hfa
            | succ m => unfold tyFit at hfa; simp only [Bool.and_eq_true, decide_eq_true_eq] at hfa; exact hfa.1
          obtain ⟨y, y1, y2, y3⟩ := ih1 f.type a fuel _ x hfa h0 hs.left
          obtain ⟨z, z1, z2⟩ := ih2 fs (f.offset + a.size) b fuel cs xs hfb (fun i g hg => by simpa using h (i + 1) g (by simpa using hg)) (by simpa using hl) hs.right
          refine ⟨(y, z), ⟨TRel_congr a y _ _ (fun j hj => ?_) y1, TRel.func z1 fun j => by rw [Nat.add_assoc]⟩, y2, z2⟩
          rw [List.getElem?_take, if_pos (by omega), List.getElem?_drop]
      · cases hfit
end
end AM

/- A law's run. -/
namespace AM
open Go Go.RowKit Go.ChangeShapes Go.WideShapes
def holes : Nat → List Ty → List (Nat × Pat)
  | _, [] => []
  | i, t :: ts => (i, .hole t) :: holes (i + 1) ts
def RngS : (i : Nat) → (ts : List Ty) → sdens (holes i ts) → Prop
  | _, [], _ => True
  | i, t :: ts, d => Rng t d.1 ∧ RngS (i + 1) ts d.2
def fits (P : Program) : List TypeId → List Ty → Bool
  | [], [] => true
  | p :: ps, t :: ts => tyFit P 40 p t && fits P ps ts
  | _, _ => false
section
variable {H : Type} {enc : TypeId × Value → H} {P : Program} {w : World} {N : Names} {D : Nat → Prop} {base : Nat}
theorem tyFit_size {m : Nat} {t : TypeId} {te : Ty} (h : tyFit P m t te = true) : P.cellsOf t = te.size := by
  cases m with
  | zero => simp [tyFit] at h
  | succ m => unfold tyFit at h; simp only [Bool.and_eq_true, decide_eq_true_eq] at h; exact h.1
theorem one_cell {te : Ty} {x : te.den} {v : Value} (ha : (AM.enc te x).isAgg = false) (hs : te.size = 1) (h : TRel D w te x ([v][·]?)) : VRel N D w (AM.enc te x) v := by
  unfold VRel
  rw [ha]
  refine (enc_rel te x _).2 (TRel_congr te x _ _ (fun j hj => ?_) h)
  obtain rfl : j = 0 := by omega
  rfl
theorem many_cells {te : Ty} {x : te.den} {cs : Array Value} (ha : (AM.enc te x).isAgg = true) (hs : cs.size = te.size) (h : TRel D w te x (cs.toList[·]?)) : VRel N D w (AM.enc te x) (.agg cs) := by
  unfold VRel
  rw [ha]
  exact ⟨cs, rfl, by rw [hs, enc_size], (enc_rel te x _).2 (TRel.func h fun j => by simp)⟩
theorem enc_isAgg (te : Ty) (x : te.den) : (AM.enc te x).isAgg = (tsh te).isAgg := by rw [isAgg_sh, enc_sh]
theorem cons_agg (a b : Ty) : (tsh (.cons a b)).isAgg = true := by
  simp only [tsh]
  cases tsh b <;> rfl
theorem fitFs_agg {m : Nat} {fs : List Field} {off : Nat} {te : Ty} (hf : fitFs P m fs off te = true) : (tsh te).isAgg = true := by
  cases m with
  | zero => simp [fitFs] at hf
  | succ m =>
    unfold fitFs at hf
    split at hf
    · cases hf
    · rfl
    · exact cons_agg _ _
    · cases hf
theorem val_read {m : Nat} {t : TypeId} {te : Ty} {x : te.den} {v : Value} (hf : tyFit P m t te = true) (hv : Value.okWide P w .any base t v) (h : TRel D w te x (v.cells.toList[·]?)) : VRel N D w (AM.enc te x) v := by
  have hsz := tyFit_size hf
  cases m with
  | zero => simp [tyFit] at hf
  | succ m =>
    unfold tyFit at hf
    simp only [Bool.and_eq_true, decide_eq_true_eq] at hf
    replace hf := hf.2
    split at hf
    · rename_i k k' hu
      obtain ⟨n, rfl⟩ := okWide_int hu hv
      exact one_cell (by rw [enc_isAgg]; rfl) rfl (by simpa [Value.cells] using h)
    · rename_i hu
      obtain ⟨n, rfl⟩ := okWide_bool hu hv
      exact one_cell (by rw [enc_isAgg]; rfl) rfl (by simpa [Value.cells] using h)
    · rename_i hu
      obtain ⟨n, rfl⟩ := okWide_string hu hv
      exact one_cell (by rw [enc_isAgg]; rfl) rfl (by simpa [Value.cells] using h)
    · rename_i e te hu
      obtain ⟨a, l, c, rfl⟩ := okWide_slice hu hv
      exact one_cell (by rw [enc_isAgg]; rfl) rfl (by simpa [Value.cells] using h)
    · rename_i n e n' te hu
      simp only [Value.okWide, hu] at hv
      obtain ⟨cs, rfl, hcs, _⟩ := hv
      exact many_cells (by rw [enc_isAgg]; rfl) (by rw [hcs, hsz]) (by simpa [Value.cells] using h)
    · rename_i fs hu
      simp only [Value.okWide, hu] at hv
      obtain ⟨cs, rfl, hcs, _⟩ := hv
      exact many_cells (by rw [enc_isAgg]; exact fitFs_agg hf) (by rw [hcs, hsz]) (by simpa [Value.cells] using h)
    · cases hf
theorem args_read (hD : ∀ b, b < w.heap.size → D b) : ∀ (pts : List TypeId) (ts : List Ty) (i : Nat) (vs : List Value) (ds : List (DataW H)) (ps : List MemPlace), fits P pts ts = true → DataW.TrodAll enc P w 0 (fun _ => true) true pts vs ds ps →
    (∀ (j : Nat) t v, pts[j]? = some t → vs[j]? = some v → Value.okWide P w .any base t v) → Small (DataW.weightsEach P pts ds) →
    ∃ d : sdens (holes i ts), RngS i ts d ∧ vs.length = ts.length ∧ ∀ y, VRel N D w (mkT (fun c => c) (holes i ts) d (i + y)) (vs.getD y Go.undef)
  | [], [], i, vs, ds, ps, _, h, _, _ => by
    obtain ⟨rfl, rfl, rfl⟩ := trodAll_nil h
    exact ⟨(), trivial, rfl, fun y => by simp only [holes, mkT]; exact VRel_undef⟩
  | p :: pts, t :: ts, i, vs, ds, ps, hf, h, hv, hs => by
    obtain ⟨v, vs, d, ds, p1, q1, rfl, rfl, rfl, ⟨fuel, h1⟩, h2⟩ := trodAll_cons h
    simp only [fits, Bool.and_eq_true] at hf
    simp only [DataW.weightsEach] at hs
    obtain ⟨x, x1, x2, _⟩ := (trod_read hD 40).1 p t fuel _ _ hf.1 h1 hs.left
    obtain ⟨d2, e1, e2, e3⟩ := args_read hD pts ts (i + 1) vs ds q1 hf.2 h2 (fun j t v g1 g2 => hv (j + 1) t v (by simpa using g1) (by simpa using g2)) hs.right
    refine ⟨(x, d2), ⟨x2, e1⟩, by simp [e2], fun y => ?_⟩
    cases y with
    | zero =>
      simp only [holes, mkT, Nat.add_zero, if_true, Pat.mk]
      exact val_read hf.1 (hv 0 p v rfl rfl) x1
    | succ y =>
      simp only [holes, mkT]
      rw [if_neg (by omega)]
      have := e3 y
      rw [show i + 1 + y = i + (y + 1) by omega] at this
      simpa using this
  | [], _ :: _, _, _, _, _, h, _, _, _ => by simp [fits] at h
  | _ :: _, [], _, _, _, _, h, _, _, _ => by simp [fits] at h
/-- arguments read behind the call as they did -/
theorem trodAll_back (hl : laidOutB P = true) : ∀ {pts : List TypeId} {vs : List Value} {ds : List (DataW H)} {ps : List MemPlace} {w' : World}, (pts.all fun t => P.readableRec t && decide (t < P.types.size)) = true → DataW.TrodAll enc P w 0 (fun _ => true) true pts vs ds ps → Below w.heap.size w w' →
    DataW.TrodAll enc P w' 0 (fun b => decide (b < w.heap.size)) true pts vs ds ps
  | [], vs, ds, ps, w', _, h, _ => by
    obtain ⟨rfl, rfl, rfl⟩ := trodAll_nil h
    exact trodAll_mk0
  | p :: pts, vs, ds, ps, w', hr, h, hb => by
    obtain ⟨v, vs, d, ds, p1, q1, rfl, rfl, rfl, h1, h2⟩ := trodAll_cons h
    simp only [List.all_cons, Bool.and_eq_true, decide_eq_true_eq] at hr
    obtain ⟨fuel, h1'⟩ := id h1
    refine ⟨p1, q1, Below.trod hl hr.1.1 hr.1.2 h1 hb (fun x hx => DataW.trod_lt fuel _ _ _ h1' x hx), trodAll_back hl hr.2 h2 hb, rfl⟩
theorem law_walk {f : FuncId} {ts : List Ty} {lt : Bool} {F : SPat.den ⟨holes 0 ts, []⟩ → Option (exdens [⟨[(0, .hole .bool)], []⟩])} (hF : ∀ base, FunOK P base f ⟨⟨holes 0 ts, []⟩, [⟨[(0, .hole .bool)], []⟩], lt⟩ F) (hp : ∀ d : sdens (holes 0 ts), RngS 0 ts d → F (d, ()) = some (((true, ()), ()) : (Bool × Unit) × Unit))
    {pts : List TypeId} (hfit : fits P pts ts = true) {args : Array Value} {ds : List (DataW H)} {ps : List MemPlace} (hA : DataW.TrodAll enc P w 0 (fun _ => true) true pts args.toList ds ps)
    (hval : ∀ (j : Nat) t v, pts[j]? = some t → args[j]? = some v → Value.okWide P w .any base t v) (hs : Small (DataW.weightsEach P pts ds)) :
    Calls P f args w fun e w' => e = .returned (.bool true) ∧ Below w.heap.size w w' := by
  obtain ⟨d, h1, h2, h3⟩ := args_read (N := fun _ => none) (D := fun b => b < w.heap.size) (base := base) (fun _ h => h) pts ts 0 _ _ _ hfit hA (fun j t v g1 g2 => hval j t v g1 (by simpa using g2)) hs
  have hlen : ∀ (i : Nat) (ts : List Ty), (holes i ts).length = ts.length := by
    intro i ts
    induction ts generalizing i with
    | nil => rfl
    | cons t ts ih => simp [holes, ih]
  have S : Sim (fun _ => none) (fun b => b < w.heap.size) w w.heap.size (mkH (fun c => c) ([] : List (Nat × OPat)) () (fun _ => none)) :=
    ⟨fun i o h => by simp [mkH] at h, fun i j oi oj ni nj ai aj h => by simp [mkH] at h, fun b h => h, (fun i nm h => by cases h), Nat.le_refl _⟩
  have hc := (hF w.heap.size).2 (d, ()) _ (hp d h1) (fun _ => none) (fun b => b < w.heap.size) w args.toList S (by rw [h2, hlen]) (fun y => by have := h3 y; rwa [Nat.zero_add] at this)
  refine hc.mono fun e w' he => ?_
  cases e with
  | panicked c => exact he.elim
  | outgrown => exact he.elim
  | returned v =>
    obtain ⟨Ne, De, post, hv⟩ := he
    have hv : VRel Ne De w' (AM.enc .bool true) v := hv
    refine ⟨by rw [VRel_val.1 hv], ⟨post.ext.os, post.ext.tape, post.ext.output, post.ext.size, fun b hb => post.ext.keep b hb fun ho => ?_⟩⟩
    obtain ⟨i, o, nm, a, g1, _⟩ := ho
    simp [mkH] at g1
end
end AM

/- Words for plain laws. -/
namespace AM
open Go
/-- where a question is answered -/
theorem ot {p : Prop} (h : p) : odec p = true := odec_iff.2 h
theorem of_ {p : Prop} (h : ¬ p) : odec p = false := by
  cases e : odec p with
  | false => rfl
  | true => exact absurd (odec_iff.1 e) h
theorem odT : odec True = true := ot trivial
theorem odF : odec False = false := of_ id
theorem wr64 {n : Int} (h0 : -9223372036854775808 ≤ n) (h1 : n ≤ 9223372036854775807) : wr .i64 n = n := by rw [wr_eq, IntKind.wrap_i64]; omega
theorem rng64 {n : Int} (h : Rng (.int .i64) n) : -9223372036854775808 ≤ n ∧ n ≤ 9223372036854775807 := h
theorem loop_ind {L R : Type} {b : L → Option (L ⊕ R)} (I : L → Prop) (Q : R → Prop) (μ : L → Nat) (h : ∀ l, I l → (∃ r, b l = some (.inr r) ∧ Q r) ∨ (∃ l', b l = some (.inl l') ∧ I l' ∧ μ l' < μ l)) : ∀ l, I l → ∃ r, loopFix b l = some r ∧ Q r := by
  have key : ∀ n l, μ l ≤ n → I l → ∃ r, loopFix b l = some r ∧ Q r := by
    intro n
    induction n with
    | zero =>
      intro l hn hl
      rcases h l hl with ⟨r, h1, h2⟩ | ⟨l', h1, h2, h3⟩
      · exact ⟨r, by rw [loopFix_eq, h1], h2⟩
      · omega
    | succ n ih =>
      intro l hn hl
      rcases h l hl with ⟨r, h1, h2⟩ | ⟨l', h1, h2, h3⟩
      · exact ⟨r, by rw [loopFix_eq, h1], h2⟩
      · obtain ⟨r, h4, h5⟩ := ih l' (by omega) h2
        exact ⟨r, by rw [loopFix_eq, h1]; exact h4, h5⟩
  exact fun l hl => key (μ l) l (Nat.le_refl _) hl
theorem boolEq_eq (a b : Bool) : boolEq a b = (a == b) := rfl
/-- an element, where the index is a number of the list's -/
theorem get_int {β : Type} {xs : List β} {i : Int} (h0 : 0 ≤ i) (h1 : i < (xs.length : Int)) : ∃ x, xs[i.toNat]? = some x ∧ x ∈ xs := by
  have h : i.toNat < xs.length := by omega
  exact ⟨xs[i.toNat], List.getElem?_eq_getElem h, List.getElem_mem h⟩
/-- a number that is brought within bounds -/
theorem within_ok {v lo hi : Int} (hv : -9223372036854775808 ≤ v ∧ v ≤ 9223372036854775807) (h0 : -4611686018427387904 ≤ lo) (h1 : lo ≤ hi) (h2 : hi ≤ 4611686018427387902) (h3 : hi - lo < 4611686018427387904) :
    ∃ r, lo ≤ r ∧ r ≤ hi ∧ (bif odec ((wr .i64 ((wr .i64 (hi - lo)) + 1)) = 0) then none else (bif (odec ((Int.tmod v (wr .i64 ((wr .i64 (hi - lo)) + 1))) < 0)) then some ((((wr .i64 (lo + (wr .i64 ((wr .i64 ((wr .i64 ((Int.tmod v (wr .i64 ((wr .i64 (hi - lo)) + 1))) + hi)) - lo)) + 1)))), ()), ()))
      else some ((((wr .i64 (lo + (Int.tmod v (wr .i64 ((wr .i64 (hi - lo)) + 1))))), ()), ()))) : Option ((Int × Unit) × Unit)) = some ((r, ()), ()) := by
  have e1 : wr .i64 (hi - lo) = hi - lo := wr64 (by omega) (by omega)
  have e2 : wr .i64 (hi - lo + 1) = hi - lo + 1 := wr64 (by omega) (by omega)
  rw [e1, e2]
  have hm0 : Int.tmod v (hi - lo + 1) < hi - lo + 1 := by
    have := Int.tmod_lt_of_pos v (show 0 < hi - lo + 1 by omega)
    exact this
  have hm1 : -(hi - lo + 1) < Int.tmod v (hi - lo + 1) := by
    have := Int.lt_tmod_of_pos v (show 0 < hi - lo + 1 by omega)
    exact this
  generalize Int.tmod v (hi - lo + 1) = m at hm0 hm1
  simp only [odec_eq, Bool.cond_decide]
  rw [if_neg (by omega)]
  by_cases hm : m < 0
  · rw [if_pos hm]
    refine ⟨lo + (m + hi - lo + 1), by omega, by omega, ?_⟩
    rw [wr64 (n := m + hi) (by omega) (by omega), wr64 (n := m + hi - lo) (by omega) (by omega), wr64 (n := m + hi - lo + 1) (by omega) (by omega), wr64 (by omega) (by omega)]
  · rw [if_neg hm]
    refine ⟨lo + m, by omega, by omega, ?_⟩
    rw [wr64 (by omega) (by omega)]
end AM

