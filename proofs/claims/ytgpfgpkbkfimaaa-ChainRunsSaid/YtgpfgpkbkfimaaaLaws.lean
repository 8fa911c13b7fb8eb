/- The laws of chapter 4, in plain Lean. -/
import Derived.Test.YtgpfgpkbkfimaaaPrn
set_option linter.unusedVariables false
set_option linter.unusedSimpArgs false
namespace AM
open Go
set_option maxRecDepth 100000
/-! ### words for bytes -/
theorem roomI : ((room : Nat) : Int) = 70368744177664 := by rw [room_eq]; rfl
theorem inRoom {n : Int} (h : n ≤ 70368744177664) : odec (n * ((1 : Nat) : Int) ≤ (room : Nat)) = true := ot (by rw [roomI]; omega)
theorem clone_ok (xs : List Int) (h : xs.length ≤ 70368744177664) : slices_Clone_byte_byte ((xs, ()), ()) = some (((), ()), (xs, ())) := by
  have e : odec (((([] : List Int).length + xs.length : Nat) : Int) * ((1 : Nat) : Int) ≤ (room : Nat)) = true := inRoom (by simp only [List.length_nil]; omega)
  simp only [slices_Clone_byte_byte, e, cond_true, List.nil_append]
  by_cases h0 : (xs.length : Int) = 0
  · have hx : xs = [] := List.eq_nil_of_length_eq_zero (by omega)
    subst hx
    rw [ot h0, cond_true, ot rfl, cond_true]
  · rw [of_ h0, cond_false]
theorem take_flat {L : List (List Int)} {i : Nat} {x : List Int} (h : L[i]? = some x) : (L.take (i + 1)).flatten = (L.take i).flatten ++ x := by
  rw [List.take_add_one, h]; simp
theorem flat_le {L : List (List Int)} (i : Nat) : (L.take i).flatten.length ≤ L.flatten.length := by
  have : L.flatten = (L.take i).flatten ++ (L.drop i).flatten := by rw [← List.flatten_append, List.take_append_drop]
  rw [this, List.length_append]; omega
theorem csum_ok (L : List (List Int)) (h : L.flatten.length ≤ 70368744177664) (hn : L.length ≤ 70368744177664) : loopFix slices_Concat_byte_byte_l3 ((L, 0, L, (L.length : Int), 0, ()), ()) = some ((L, (L.flatten.length : Int), ()), ()) := by
  have key := loop_ind (b := slices_Concat_byte_byte_l3) (fun d => ∃ i : Nat, d = ((L, ((L.take i).flatten.length : Int), L, (L.length : Int), (i : Int), ()), ()) ∧ i ≤ L.length) (fun r => r = ((L, (L.flatten.length : Int), ()), ())) (fun d => (L.length : Int).toNat - d.1.2.2.2.2.1.toNat) (by
    rintro d ⟨i, rfl, hi⟩
    by_cases h1 : i < L.length
    · right
      have ex := List.getElem?_eq_getElem h1
      have e1 : wr .i64 ((i : Int) + 1) = ((i + 1 : Nat) : Int) := by rw [wr64 (by omega) (by omega)]; omega
      have e2 : wr .i64 (((L.take i).flatten.length : Int) + (L[i].length : Int)) = ((L.take (i + 1)).flatten.length : Int) := by
        have := flat_le (L := L) (i + 1)
        rw [take_flat ex, List.length_append] at this ⊢
        rw [wr64 (by omega) (by omega)]; omega
      refine ⟨((L, ((L.take (i + 1)).flatten.length : Int), L, (L.length : Int), ((i + 1 : Nat) : Int), ()), ()), ?_, ⟨i + 1, rfl, by omega⟩, by simp only; omega⟩
      simp only [slices_Concat_byte_byte_l3, ot (show (i : Int) < (L.length : Int) by omega), ot (show (0 : Int) ≤ (i : Int) by omega), cond_true, Int.toNat_natCast, ex, Option.bind_some, e1, e2, of_ (show ¬ (((L.take (i + 1)).flatten.length : Int)) < 0 by omega), cond_false]
    · left
      have : i = L.length := by omega
      subst this
      exact ⟨_, by simp only [slices_Concat_byte_byte_l3, of_ (show ¬ (L.length : Int) < (L.length : Int) by omega), cond_false, List.take_length], rfl⟩)
  obtain ⟨r, hr, rfl⟩ := key ((L, 0, L, (L.length : Int), 0, ()), ()) ⟨0, by simp, by omega⟩
  exact hr
theorem grow_ok (n : Nat) (h : n ≤ 70368744177664) : slices_Grow_byte_byte (((), (n : Int), ()), ()) = some (if 0 < n then .inl ((0, ()), (List.replicate n (0 : Int), ())) else .inr (((), ()), ([], ()))) := by
  have w0 : wr .i64 (0 - 0) = 0 := wr64 (by omega) (by omega)
  have w1 : wr .i64 ((n : Int) - 0) = (n : Int) := by rw [wr64 (by omega) (by omega)]; omega
  have e1 : (0 : Int) ≤ (n : Int) ∧ ((([] : List Int).length : Int) + (n : Int)) * ((1 : Nat) : Int) ≤ (room : Nat) := by rw [roomI]; simp only [List.length_nil]; omega
  have e2 : (0 : Int) ≤ (0 : Int) ∧ (0 : Int) ≤ (0 : Int) ∧ (0 : Int) ≤ ((([] : List Int) ++ List.replicate ((n : Int)).toNat (0 : Int)).length : Int) := by omega
  simp only [slices_Grow_byte_byte, w0, w1, of_ (show ¬ (n : Int) < 0 by omega), cond_false, ot (show (0 : Int) = 0 ∧ (0 : Int) = 0 from ⟨rfl, rfl⟩), cond_true, ot e1, Int.toNat_natCast, and_self, odT, List.nil_append, ot (show (0 : Int) ≤ 0 by omega), ot (show (0 : Int) ≤ 0 ∧ (0 : Int) ≤ 0 ∧ (0 : Int) ≤ ((List.replicate n (0 : Int)).length : Int) by omega)]
  by_cases hn : 0 < n
  · rw [if_pos hn, ot (show (n : Int) > 0 by omega)]; rfl
  · rw [if_neg hn, of_ (show ¬ (n : Int) > 0 by omega)]; rfl
theorem put_ok (L : List (List Int)) (h : L.flatten.length ≤ 70368744177664) (hn : L.length ≤ 70368744177664) : loopFix slices_Concat_byte_byte_l11 ((0, L, (L.length : Int), 0, ()), (List.replicate L.flatten.length (0 : Int), ())) = some ((L.flatten.length, ()), (L.flatten, ())) := by
  have key := loop_ind (b := slices_Concat_byte_byte_l11) (fun d => ∃ (i : Nat) (R : List Int), d = (((L.take i).flatten.length, L, (L.length : Int), (i : Int), ()), (R, ())) ∧ i ≤ L.length ∧ R.length = L.flatten.length ∧ R.take (L.take i).flatten.length = (L.take i).flatten) (fun r => r = ((L.flatten.length, ()), (L.flatten, ()))) (fun d => (L.length : Int).toNat - d.1.2.2.2.1.toNat) (by
    rintro d ⟨i, R, rfl, hi, hR, hT⟩
    by_cases h1 : i < L.length
    · right
      have ex := List.getElem?_eq_getElem h1
      have e1 : wr .i64 ((i : Int) + 1) = ((i + 1 : Nat) : Int) := by rw [wr64 (by omega) (by omega)]; omega
      have hf := take_flat ex
      have hle := flat_le (L := L) (i + 1)
      rw [hf, List.length_append] at hle
      have hc : 0 + (L.take i).flatten.length + L[i].length ≤ R.length := by omega
      refine ⟨(((L.take (i + 1)).flatten.length, L, (L.length : Int), ((i + 1 : Nat) : Int), ()), (R.take (0 + (L.take i).flatten.length) ++ L[i] ++ R.drop ((0 + (L.take i).flatten.length) + L[i].length), ())), ?_, ⟨i + 1, _, rfl, by omega, ?_, ?_⟩, by simp only; omega⟩
      · simp only [slices_Concat_byte_byte_l11, ot (show (i : Int) < (L.length : Int) by omega), ot (show (0 : Int) ≤ (i : Int) by omega), cond_true, Int.toNat_natCast, ex, Option.bind_some, e1, ot hc, hf, List.length_append]
      · simp only [List.length_append, List.length_take, List.length_drop]; omega
      · rw [hf, Nat.zero_add, hT, List.append_assoc]
        rw [List.length_append, ← List.append_assoc, List.take_append_of_le_length (by rw [List.length_append]; omega)]
        exact List.take_of_length_le (by rw [List.length_append]; omega)
    · left
      have : i = L.length := by omega
      subst this
      rw [List.take_length, List.take_of_length_le (by omega)] at hT
      exact ⟨_, by simp only [slices_Concat_byte_byte_l11, of_ (show ¬ (L.length : Int) < (L.length : Int) by omega), cond_false, List.take_length, hT], rfl⟩)
  obtain ⟨r, hr, rfl⟩ := key ((0, L, (L.length : Int), 0, ()), (List.replicate L.flatten.length (0 : Int), ())) ⟨0, _, rfl, by omega, List.length_replicate, by simp only [List.take_zero, List.flatten_nil, List.length_nil]⟩
  exact hr
theorem concat_some (A B : List Int) (hA : 0 < A.length) (h : A.length + B.length ≤ 1000000) : slices_Concat_byte_byte (([A, B], ()), ()) = some (.inl (((A ++ B).length, ()), (A ++ B, ()))) := by
  have hf : ([A, B] : List (List Int)).flatten = A ++ B := by simp
  have hl : ([A, B] : List (List Int)).flatten.length ≤ 70368744177664 := by rw [hf, List.length_append]; omega
  have h1 := csum_ok [A, B] hl (by simp)
  have h2 := put_ok [A, B] hl (by simp)
  have h3 := grow_ok ([A, B] : List (List Int)).flatten.length hl
  rw [if_pos (by rw [hf, List.length_append]; omega)] at h3
  rw [hf] at h1 h2 h3
  simp only [slices_Concat_byte_byte, h1, Option.bind_some, h3, h2]
theorem same_ok (a b : List Int) (h : a.length ≤ 140737488355328) : jobberbook_Same_byte ((a, b, ()), ()) = some ((odec (a = b), ()), ()) := by
  by_cases hl : (a.length : Int) = (b.length : Int)
  · have key := loop_ind (b := jobberbook_Same_byte_l4) (fun d => ∃ i : Nat, d = ((a, b, (i : Int), ()), ()) ∧ i ≤ a.length ∧ a.take i = b.take i) (fun r => (r = .inr ((), ()) ∧ a = b) ∨ (r = .inl ((false, ()), ()) ∧ a ≠ b)) (fun d => (a.length : Int).toNat - d.1.2.2.1.toNat) (by
      rintro d ⟨i, rfl, hi, ht⟩
      by_cases h1 : i < a.length
      · have ea := List.getElem?_eq_getElem h1
        have h2 : i < b.length := by omega
        have eb := List.getElem?_eq_getElem h2
        have e1 : wr .i64 ((i : Int) + 1) = ((i + 1 : Nat) : Int) := by rw [wr64 (by omega) (by omega)]; omega
        by_cases he : a[i] = b[i]
        · right
          refine ⟨((a, b, ((i + 1 : Nat) : Int), ()), ()), ?_, ⟨i + 1, rfl, by omega, ?_⟩, by simp only; omega⟩
          · simp only [jobberbook_Same_byte_l4, ot (show (i : Int) < (a.length : Int) by omega), ot (show (0 : Int) ≤ (i : Int) by omega), cond_true, Int.toNat_natCast, ea, eb, Option.bind_some, e1, ot he, Bool.not_true, cond_false]
          · rw [List.take_add_one, List.take_add_one, ea, eb, ht, he]
        · left
          refine ⟨.inl ((false, ()), ()), ?_, .inr ⟨rfl, fun e => he (by subst e; rfl)⟩⟩
          simp only [jobberbook_Same_byte_l4, ot (show (i : Int) < (a.length : Int) by omega), ot (show (0 : Int) ≤ (i : Int) by omega), cond_true, Int.toNat_natCast, ea, eb, Option.bind_some, of_ he, Bool.not_false]
      · left
        have e : i = a.length := by omega
        subst e
        refine ⟨.inr ((), ()), by simp only [jobberbook_Same_byte_l4, of_ (show ¬ (a.length : Int) < (a.length : Int) by omega), cond_false], .inl ⟨rfl, ?_⟩⟩
        rw [List.take_length] at ht
        rw [ht]; exact List.take_of_length_le (by omega))
    obtain ⟨r, hr, q⟩ := key ((a, b, 0, ()), ()) ⟨0, rfl, by omega, rfl⟩
    simp only [jobberbook_Same_byte, ot hl, Bool.not_true, cond_false, hr, Option.bind_some]
    rcases q with ⟨rfl, q⟩ | ⟨rfl, q⟩
    · simp only [ot q]
    · simp only [of_ q]
  · have : a ≠ b := fun e => hl (by rw [e])
    simp only [jobberbook_Same_byte, of_ hl, Bool.not_false, cond_true, of_ this]
theorem imin_take {β : Type} (l : List β) (n : Nat) (m : Int) (hm : m = (n : Int)) : l.take (imin (l.length : Int) m).toNat = l.take n ∧ 0 ≤ imin (l.length : Int) m ∧ imin (l.length : Int) m ≤ (l.length : Int) := by
  subst hm
  have e : imin (l.length : Int) (n : Int) = ((min l.length n : Nat) : Int) := by
    rw [imin]
    by_cases h : (n : Int) < (l.length : Int)
    · rw [ot h]; simp only [cond_true]; omega
    · rw [of_ h]; simp only [cond_false]; omega
  rw [e, Int.toNat_natCast]
  refine ⟨?_, by omega, by omega⟩
  rcases Nat.le_total l.length n with h | h
  · rw [Nat.min_eq_left h, List.take_length, List.take_of_length_le h]
  · rw [Nat.min_eq_right h]
/-! ### SHA-256, plainly -/
def M32 : Nat := 4294967296
def rotN (x n : Nat) : Nat := (x >>> n) ||| ((x <<< (32 - n)) % M32)
def sg0 (x : Nat) : Nat := (rotN x 7 ^^^ rotN x 18) ^^^ (x >>> 3)
def sg1 (x : Nat) : Nat := (rotN x 17 ^^^ rotN x 19) ^^^ (x >>> 10)
def bS0 (x : Nat) : Nat := (rotN x 2 ^^^ rotN x 13) ^^^ rotN x 22
def bS1 (x : Nat) : Nat := (rotN x 6 ^^^ rotN x 11) ^^^ rotN x 25
def chN (e f g : Nat) : Nat := (e &&& f) ^^^ ((4294967295 ^^^ e) &&& g)
def maN (a b c : Nat) : Nat := ((a &&& b) ^^^ (a &&& c)) ^^^ (b &&& c)
abbrev S8 := Nat × Nat × Nat × Nat × Nat × Nat × Nat × Nat
def lst (s : S8) : List Nat := match s with | (a, b, c, d, e, f, g, h) => [a, b, c, d, e, f, g, h]
def rx (e f g h k w : Nat) : Nat := ((((h + bS1 e) + chN e f g) + k) + w) % M32
def ry (a b c : Nat) : Nat := (bS0 a + maN a b c) % M32
def rnd (s : S8) (k w : Nat) : S8 := match s with
  | (a, b, c, d, e, f, g, h) => ((rx e f g h k w + ry a b c) % M32, a, b, c, (d + rx e f g h k w) % M32, e, f, g)
def KN : List Nat := [1116352408, 1899447441, 3049323471, 3921009573, 961987163, 1508970993, 2453635748, 2870763221, 3624381080, 310598401, 607225278, 1426881987, 1925078388, 2162078206, 2614888103, 3248222580, 3835390401, 4022224774, 264347078, 604807628, 770255983, 1249150122, 1555081692, 1996064986, 2554220882, 2821834349, 2952996808, 3210313671, 3336571891, 3584528711, 113926993, 338241895, 666307205, 773529912, 1294757372, 1396182291, 1695183700, 1986661051, 2177026350, 2456956037, 2730485921, 2820302411, 3259730800, 3345764771, 3516065817, 3600352804, 4094571909, 275423344, 430227734, 506948616, 659060556, 883997877, 958139571, 1322822218, 1537002063, 1747873779, 1955562222, 2024104815, 2227730452, 2361852424, 2428436474, 2756734187, 3204031479, 3329325298]
def H0 : S8 := (1779033703, 3144134277, 1013904242, 2773480762, 1359893119, 2600822924, 528734635, 1541459225)
def wordN (a b c d : Nat) : Nat := ((((a <<< 24) % M32) ||| ((b <<< 16) % M32)) ||| ((c <<< 8) % M32)) ||| d
def wd (b : List Nat) (i : Nat) : Nat := wordN (b.getD (4 * i) 0) (b.getD (4 * i + 1) 0) (b.getD (4 * i + 2) 0) (b.getD (4 * i + 3) 0)
def wnext (W : List Nat) : Nat := (((W.getD (W.length - 16) 0 + sg0 (W.getD (W.length - 15) 0)) + W.getD (W.length - 7) 0) + sg1 (W.getD (W.length - 2) 0)) % M32
def ext : Nat → List Nat → List Nat
  | 0, W => W
  | n + 1, W => ext n (W ++ [wnext W])
def sched (b : List Nat) : List Nat := ext 48 ((List.range 16).map (wd b))
def rds (W : List Nat) : Nat → Nat → S8 → S8
  | 0, _, s => s
  | n + 1, i, s => rds W n (i + 1) (rnd s (KN.getD i 0) (W.getD i 0))
def addS (s t : S8) : S8 := match s, t with
  | (a, b, c, d, e, f, g, h), (a', b', c', d', e', f', g', h') => ((a + a') % M32, (b + b') % M32, (c + c') % M32, (d + d') % M32, (e + e') % M32, (f + f') % M32, (g + g') % M32, (h + h') % M32)
def comp (s : S8) (b : List Nat) : S8 := addS s (rds (sched b) 64 0 s)
def runF : Nat → S8 → List Nat → S8 × List Nat
  | 0, s, m => (s, m)
  | n + 1, s, m => if 64 ≤ m.length then runF n (comp s (m.take 64)) (m.drop 64) else (s, m)
def run (s : S8) (m : List Nat) : S8 × List Nat := runF m.length s m
def zn (n : Nat) : Nat := (120 - n % 64) % 64
def be4 (v : Nat) : List Nat := [(v >>> 24) % 256, (v >>> 16) % 256, (v >>> 8) % 256, v % 256]
def be64 (v : Nat) : List Nat := [0, 0, 0, 0] ++ be4 v
def pad (n : Nat) : List Nat := [128] ++ (List.replicate (zn (n + 1)) 0 ++ be64 (8 * n))
def outN (s : S8) : List Nat := (lst s).flatMap be4
def shaN (w : List Nat) : List Nat := outN (run H0 (w ++ pad w.length)).1
/-! ### words of 32 bits -/
def ci (l : List Nat) : List Int := l.map (fun n : Nat => (n : Int))
theorem ci_len (l : List Nat) : (ci l).length = l.length := by simp [ci]
theorem ci_app (a b : List Nat) : ci (a ++ b) = ci a ++ ci b := by simp [ci]
theorem ci_take (a : List Nat) (n : Nat) : (ci a).take n = ci (a.take n) := by simp [ci, List.map_take]
theorem ci_drop (a : List Nat) (n : Nat) : (ci a).drop n = ci (a.drop n) := by simp [ci, List.map_drop]
theorem ci_get {b : List Nat} {j : Nat} (h : j < b.length) : (ci b)[j]? = some ((b.getD j 0 : Nat) : Int) := by simp [ci, List.getD_eq_getElem?_getD, List.getElem?_eq_getElem h]
theorem ci_inj {a b : List Nat} (h : ci a = ci b) : a = b := by
  have key : ∀ a b : List Nat, ci a = ci b → a = b := by
    intro a
    induction a with
    | nil => intro b h; cases b with | nil => rfl | cons y b => simp [ci] at h
    | cons x a ih =>
      intro b h
      cases b with
      | nil => simp [ci] at h
      | cons y b =>
        simp only [ci, List.map_cons, List.cons.injEq] at h
        rw [ih b h.2, show x = y by omega]
  exact key a b h
theorem wr32 (n : Nat) : wr .u32 (n : Int) = ((n % M32 : Nat) : Int) := by rw [wr_eq, IntKind.wrap_u32]; simp only [M32]; omega
theorem wr32_id {n : Nat} (h : n < M32) : wr .u32 (n : Int) = (n : Int) := by rw [wr32, Nat.mod_eq_of_lt h]
theorem wr_add (a b : Int) : wr .u32 (wr .u32 a + b) = wr .u32 (a + b) := by simp only [wr_eq, IntKind.wrap_u32]; omega
theorem or_lt {x y : Nat} (hx : x < M32) (hy : y < M32) : x ||| y < M32 := Nat.or_lt_two_pow (n := 32) hx hy
theorem xor_lt {x y : Nat} (hx : x < M32) (hy : y < M32) : x ^^^ y < M32 := Nat.xor_lt_two_pow (n := 32) hx hy
theorem and_lt {x : Nat} (y : Nat) (hx : x < M32) : x &&& y < M32 := Nat.lt_of_le_of_lt Nat.and_le_left hx
theorem sr_lt {x : Nat} (n : Nat) (hx : x < M32) : x >>> n < M32 := Nat.lt_of_le_of_lt (Nat.shiftRight_le x n) hx
theorem mod_lt (x : Nat) : x % M32 < M32 := Nat.mod_lt _ (by decide)
theorem bv32 {x : Nat} (hx : x < M32) : (BitVec.ofInt 32 (x : Int)).toNat = x := by
  rw [BitVec.toNat_ofInt]
  simp only [M32] at hx
  omega
theorem bor32 {x y : Nat} (hx : x < M32) (hy : y < M32) : bor .u32 (x : Int) (y : Int) = ((x ||| y : Nat) : Int) := by
  have : (BitVec.ofInt IntKind.u32.bits (x : Int) ||| BitVec.ofInt IntKind.u32.bits (y : Int)).toNat = x ||| y := by
    show (BitVec.ofInt 32 (x : Int) ||| BitVec.ofInt 32 (y : Int)).toNat = x ||| y
    rw [BitVec.toNat_or, bv32 hx, bv32 hy]
  rw [bor, this, wr32_id (or_lt hx hy)]
theorem bxor32 {x y : Nat} (hx : x < M32) (hy : y < M32) : bxor .u32 (x : Int) (y : Int) = ((x ^^^ y : Nat) : Int) := by
  have : (BitVec.ofInt IntKind.u32.bits (x : Int) ^^^ BitVec.ofInt IntKind.u32.bits (y : Int)).toNat = x ^^^ y := by
    show (BitVec.ofInt 32 (x : Int) ^^^ BitVec.ofInt 32 (y : Int)).toNat = x ^^^ y
    rw [BitVec.toNat_xor, bv32 hx, bv32 hy]
  rw [bxor, this, wr32_id (xor_lt hx hy)]
theorem band32 {x y : Nat} (hx : x < M32) (hy : y < M32) : band .u32 (x : Int) (y : Int) = ((x &&& y : Nat) : Int) := by
  have : (BitVec.ofInt IntKind.u32.bits (x : Int) &&& BitVec.ofInt IntKind.u32.bits (y : Int)).toNat = x &&& y := by
    show (BitVec.ofInt 32 (x : Int) &&& BitVec.ofInt 32 (y : Int)).toNat = x &&& y
    rw [BitVec.toNat_and, bv32 hx, bv32 hy]
  rw [band, this, wr32_id (and_lt y hx)]
theorem shr_nat (k : IntKind) (x n : Nat) (h : n ≤ k.bits) : shr k (x : Int) (n : Int) = ((x >>> n : Nat) : Int) := by
  rw [shr_eq, Int.toNat_natCast, Nat.min_eq_left h, Int.fdiv_eq_ediv_of_nonneg _ (by exact Int.le_of_lt (Int.pow_pos (by omega))), Nat.shiftRight_eq_div_pow]
  norm_cast
theorem shr32 (x n : Nat) (h : n ≤ 32) : shr .u32 (x : Int) (n : Int) = ((x >>> n : Nat) : Int) := shr_nat .u32 x n h
theorem shl32 (x n : Nat) (h : n ≤ 32) : shl .u32 (x : Int) (n : Int) = (((x <<< n) % M32 : Nat) : Int) := by
  rw [shl, Int.toNat_natCast, show min n IntKind.u32.bits = n from Nat.min_eq_left h, ← wr32, Nat.shiftLeft_eq]
  norm_cast
theorem ones32 : ones .u32 = ((4294967295 : Nat) : Int) := rfl
theorem rot_lt {x : Nat} (n : Nat) (hx : x < M32) : rotN x n < M32 := or_lt (sr_lt n hx) (mod_lt _)
theorem right_ok {x : Nat} (n : Nat) (hx : x < M32) (h1 : 1 ≤ n) (h2 : n ≤ 31) : sha_right (((x : Int), (n : Int), ()), ()) = some ((((rotN x n : Nat) : Int), ()), ()) := by
  have e1 : wr .i64 (0 - (n : Int)) = -(n : Int) := by rw [wr64 (by omega) (by omega)]; omega
  have e2 : wr .u64 (-(n : Int)) = ((18446744073709551616 - n : Nat) : Int) := by rw [wr_eq, IntKind.wrap_u64]; omega
  have e3 : band .u64 ((18446744073709551616 - n : Nat) : Int) 31 = ((32 - n : Nat) : Int) := by
    have : (BitVec.ofInt IntKind.u64.bits ((18446744073709551616 - n : Nat) : Int) &&& BitVec.ofInt IntKind.u64.bits 31).toNat = 32 - n := by
      show (BitVec.ofInt 64 ((18446744073709551616 - n : Nat) : Int) &&& BitVec.ofInt 64 31).toNat = 32 - n
      rw [BitVec.toNat_and, BitVec.toNat_ofInt, BitVec.toNat_ofInt]
      have g1 : ((((18446744073709551616 - n : Nat) : Int)) % ((2 ^ 64 : Nat) : Int)).toNat = 18446744073709551616 - n := by omega
      have g2 : ((31 : Int) % ((2 ^ 64 : Nat) : Int)).toNat = 2 ^ 5 - 1 := by decide
      rw [g1, g2, Nat.and_two_pow_sub_one_eq_mod]
      omega
    rw [band, this, wr_eq, IntKind.wrap_u64]
    omega
  have e4 : wr .u64 (32 - ((32 - n : Nat) : Int)) = ((n : Nat) : Int) := by rw [wr_eq, IntKind.wrap_u64]; omega
  have e5 : bor .u32 (((x <<< (32 - n)) % M32 : Nat) : Int) ((x >>> n : Nat) : Int) = ((rotN x n : Nat) : Int) := by
    rw [bor32 (mod_lt _) (sr_lt n hx), Nat.or_comm]; rfl
  simp only [sha_right, math_bits_RotateLeft32, e1, e2, e3, of_ (show ¬ ((32 - n : Nat) : Int) < 0 by omega), cond_false, e4, of_ (show ¬ ((n : Nat) : Int) < 0 by omega), Option.bind_some]
  rw [shl32 x (32 - n) (by omega), shr32 x n (by omega), e5]
theorem sg0_lt {x : Nat} (hx : x < M32) : sg0 x < M32 := xor_lt (xor_lt (rot_lt _ hx) (rot_lt _ hx)) (sr_lt _ hx)
theorem sg1_lt {x : Nat} (hx : x < M32) : sg1 x < M32 := xor_lt (xor_lt (rot_lt _ hx) (rot_lt _ hx)) (sr_lt _ hx)
theorem e_sg0 {x : Nat} (hx : x < M32) : bxor .u32 (bxor .u32 ((rotN x 7 : Nat) : Int) ((rotN x 18 : Nat) : Int)) (shr .u32 (x : Int) 3) = ((sg0 x : Nat) : Int) := by
  have e : shr .u32 (x : Int) 3 = ((x >>> 3 : Nat) : Int) := shr32 x 3 (by omega)
  rw [e, bxor32 (rot_lt _ hx) (rot_lt _ hx), bxor32 (xor_lt (rot_lt _ hx) (rot_lt _ hx)) (sr_lt _ hx)]; rfl
theorem e_sg1 {x : Nat} (hx : x < M32) : bxor .u32 (bxor .u32 ((rotN x 17 : Nat) : Int) ((rotN x 19 : Nat) : Int)) (shr .u32 (x : Int) 10) = ((sg1 x : Nat) : Int) := by
  have e : shr .u32 (x : Int) 10 = ((x >>> 10 : Nat) : Int) := shr32 x 10 (by omega)
  rw [e, bxor32 (rot_lt _ hx) (rot_lt _ hx), bxor32 (xor_lt (rot_lt _ hx) (rot_lt _ hx)) (sr_lt _ hx)]; rfl
theorem e_bS0 {x : Nat} (hx : x < M32) : bxor .u32 (bxor .u32 ((rotN x 2 : Nat) : Int) ((rotN x 13 : Nat) : Int)) ((rotN x 22 : Nat) : Int) = ((bS0 x : Nat) : Int) := by
  rw [bxor32 (rot_lt _ hx) (rot_lt _ hx), bxor32 (xor_lt (rot_lt _ hx) (rot_lt _ hx)) (rot_lt _ hx)]; rfl
theorem e_bS1 {x : Nat} (hx : x < M32) : bxor .u32 (bxor .u32 ((rotN x 6 : Nat) : Int) ((rotN x 11 : Nat) : Int)) ((rotN x 25 : Nat) : Int) = ((bS1 x : Nat) : Int) := by
  rw [bxor32 (rot_lt _ hx) (rot_lt _ hx), bxor32 (xor_lt (rot_lt _ hx) (rot_lt _ hx)) (rot_lt _ hx)]; rfl
theorem e_ch {e f g : Nat} (he : e < M32) (hf : f < M32) (hg : g < M32) : bxor .u32 (band .u32 (e : Int) (f : Int)) (band .u32 (bxor .u32 (ones .u32) (e : Int)) (g : Int)) = ((chN e f g : Nat) : Int) := by
  have ho : (4294967295 : Nat) < M32 := by decide
  rw [ones32, band32 he hf, bxor32 ho he, band32 (xor_lt ho he) hg, bxor32 (and_lt _ he) (and_lt _ (xor_lt ho he))]; rfl
theorem e_ma {a b c : Nat} (ha : a < M32) (hb : b < M32) (hc : c < M32) : bxor .u32 (bxor .u32 (band .u32 (a : Int) (b : Int)) (band .u32 (a : Int) (c : Int))) (band .u32 (b : Int) (c : Int)) = ((maN a b c : Nat) : Int) := by
  rw [band32 ha hb, band32 ha hc, band32 hb hc, bxor32 (and_lt _ ha) (and_lt _ ha), bxor32 (xor_lt (and_lt _ ha) (and_lt _ ha)) (and_lt _ hb)]; rfl
theorem e_rx (e f g h k w : Nat) : wr .u32 (wr .u32 (wr .u32 (wr .u32 ((h : Int) + (bS1 e : Int)) + (chN e f g : Int)) + (k : Int)) + (w : Int)) = ((rx e f g h k w : Nat) : Int) := by
  simp only [wr_add]
  rw [show (h : Int) + (bS1 e : Int) + (chN e f g : Int) + (k : Int) + (w : Int) = ((h + bS1 e + chN e f g + k + w : Nat) : Int) by omega, wr32]; rfl
theorem e_ry (a b c : Nat) : wr .u32 ((bS0 a : Int) + (maN a b c : Int)) = ((ry a b c : Nat) : Int) := by
  rw [show (bS0 a : Int) + (maN a b c : Int) = ((bS0 a + maN a b c : Nat) : Int) by omega, wr32]; rfl
theorem e_add (a b : Nat) : wr .u32 ((a : Int) + (b : Int)) = (((a + b) % M32 : Nat) : Int) := by
  rw [show (a : Int) + (b : Int) = ((a + b : Nat) : Int) by omega, wr32]
theorem b_lt {a : Nat} (h : a < 256) : a < M32 := by simp only [M32]; omega
theorem e_word {a b c d : Nat} (ha : a < 256) (hb : b < 256) (hc : c < 256) (hd : d < 256) : bor .u32 (bor .u32 (bor .u32 (shl .u32 (wr .u32 (a : Int)) 24) (shl .u32 (wr .u32 (b : Int)) 16)) (shl .u32 (wr .u32 (c : Int)) 8)) (wr .u32 (d : Int)) = ((wordN a b c d : Nat) : Int) := by
  have e1 : shl .u32 (a : Int) 24 = (((a <<< 24) % M32 : Nat) : Int) := shl32 a 24 (by omega)
  have e2 : shl .u32 (b : Int) 16 = (((b <<< 16) % M32 : Nat) : Int) := shl32 b 16 (by omega)
  have e3 : shl .u32 (c : Int) 8 = (((c <<< 8) % M32 : Nat) : Int) := shl32 c 8 (by omega)
  rw [wr32_id (b_lt ha), wr32_id (b_lt hb), wr32_id (b_lt hc), wr32_id (b_lt hd), e1, e2, e3, bor32 (mod_lt _) (mod_lt _), bor32 (or_lt (mod_lt _) (mod_lt _)) (mod_lt _), bor32 (or_lt (or_lt (mod_lt _) (mod_lt _)) (mod_lt _)) (b_lt hd)]; rfl
theorem word_lt {a b c d : Nat} (hd : d < 256) : wordN a b c d < M32 := or_lt (or_lt (or_lt (mod_lt _) (mod_lt _)) (mod_lt _)) (b_lt hd)
/-! ### arrays that are filled from the front -/
theorem fill_get {W : List Nat} {R : List Int} {j : Nat} (h : j < W.length) : (ci W ++ R)[j]? = some ((W.getD j 0 : Nat) : Int) := by
  rw [List.getElem?_append_left (by rw [ci_len]; exact h), ci_get h]
theorem fill_at (W : List Nat) (m : Nat) : (ci W ++ List.replicate (m + 1) (0 : Int))[W.length]? = some 0 := by
  rw [List.getElem?_append_right (by rw [ci_len]; exact Nat.le_refl _), ci_len, Nat.sub_self]; rfl
theorem fill_set (W : List Nat) (m x : Nat) : (ci W ++ List.replicate (m + 1) (0 : Int)).set W.length (x : Int) = ci (W ++ [x]) ++ List.replicate m (0 : Int) := by
  rw [List.set_append_right _ _ (by rw [ci_len]; exact Nat.le_refl _), ci_len, Nat.sub_self, List.replicate_succ, List.set_cons_zero, ci_app, List.append_assoc]; rfl
/-! ### a block -/
theorem sched0_lt {b : List Nat} (hb : ∀ x ∈ b, x < 256) (i : Nat) : ∀ x ∈ (List.range i).map (wd b), x < M32 := by
  intro x hx
  obtain ⟨j, _, rfl⟩ := List.mem_map.1 hx
  refine word_lt ?_
  rw [List.getD_eq_getElem?_getD]
  cases h : b[4 * j + 3]? with
  | none => simp
  | some y => exact hb y (List.mem_of_getElem? h)
theorem getD_lt {b : List Nat} {n : Nat} (hn : 0 < n) (hb : ∀ x ∈ b, x < n) (i : Nat) : b.getD i 0 < n := by
  rw [List.getD_eq_getElem?_getD]
  cases h : b[i]? with
  | none => exact hn
  | some y => exact hb y (List.mem_of_getElem? h)
theorem m32_pos : 0 < M32 := by decide
theorem spread3 (b : List Nat) (hb : ∀ x ∈ b, x < 256) (hl : b.length = 64) (X : List Int) : loopFix sha_spread_l3 ((ci b, (), (), 0, ()), (X, List.replicate 64 (0 : Int), ())) = some (((), (), ()), (X, ci ((List.range 16).map (wd b)) ++ List.replicate 48 (0 : Int), ())) := by
  have key := loop_ind (b := sha_spread_l3) (fun d => ∃ i : Nat, d = ((ci b, (), (), (i : Int), ()), (X, ci ((List.range i).map (wd b)) ++ List.replicate (64 - i) (0 : Int), ())) ∧ i ≤ 16) (fun r => r = (((), (), ()), (X, ci ((List.range 16).map (wd b)) ++ List.replicate 48 (0 : Int), ()))) (fun d => 16 - d.1.2.2.2.1.toNat) (by
    rintro d ⟨i, rfl, hi⟩
    by_cases h : i < 16
    · right
      have e1 : wr .i64 ((i : Int) + 1) = ((i + 1 : Nat) : Int) := by rw [wr64 (by omega) (by omega)]; omega
      have e2 : wr .i64 (4 * (i : Int)) = ((4 * i : Nat) : Int) := by rw [wr64 (by omega) (by omega)]; omega
      have e3 : wr .i64 (((4 * i : Nat) : Int) + 1) = ((4 * i + 1 : Nat) : Int) := by rw [wr64 (by omega) (by omega)]; omega
      have e4 : wr .i64 (((4 * i : Nat) : Int) + 2) = ((4 * i + 2 : Nat) : Int) := by rw [wr64 (by omega) (by omega)]; omega
      have e5 : wr .i64 (((4 * i : Nat) : Int) + 3) = ((4 * i + 3 : Nat) : Int) := by rw [wr64 (by omega) (by omega)]; omega
      have g : ∀ j, b.getD j 0 < 256 := getD_lt (by omega) hb
      have hw := e_word (g (4 * i)) (g (4 * i + 1)) (g (4 * i + 2)) (g (4 * i + 3))
      have hr : 64 - i = (64 - (i + 1)) + 1 := by omega
      have hlen : ((List.range i).map (wd b)).length = i := by simp
      have s1 := fill_at ((List.range i).map (wd b)) (64 - (i + 1))
      have s2 := fill_set ((List.range i).map (wd b)) (64 - (i + 1)) (wd b i)
      rw [hlen] at s1 s2
      refine ⟨((ci b, (), (), ((i + 1 : Nat) : Int), ()), (X, ci ((List.range (i + 1)).map (wd b)) ++ List.replicate (64 - (i + 1)) (0 : Int), ())), ?_, ⟨i + 1, rfl, by omega⟩, by simp only; omega⟩
      rw [List.range_succ, List.map_append]
      rw [hr]
      simp only [sha_spread_l3, ot (show (i : Int) < 16 by omega), cond_true, e2, e3, e4, e5, ot (show (0 : Int) ≤ ((4 * i : Nat) : Int) by omega), ot (show (0 : Int) ≤ ((4 * i + 1 : Nat) : Int) by omega), ot (show (0 : Int) ≤ ((4 * i + 2 : Nat) : Int) by omega), ot (show (0 : Int) ≤ ((4 * i + 3 : Nat) : Int) by omega), Int.toNat_natCast, ci_get (show 4 * i < b.length by omega), ci_get (show 4 * i + 1 < b.length by omega), ci_get (show 4 * i + 2 < b.length by omega), ci_get (show 4 * i + 3 < b.length by omega), Option.bind_some,
        of_ (show ¬ (24 : Int) < 0 by omega), of_ (show ¬ (16 : Int) < 0 by omega), of_ (show ¬ (8 : Int) < 0 by omega), cond_false, ot (show (0 : Int) ≤ (i : Int) ∧ (i : Int) < ((64 : Nat) : Int) by omega), s1, hw, e1]
      rw [show ((wordN (b.getD (4 * i) 0) (b.getD (4 * i + 1) 0) (b.getD (4 * i + 2) 0) (b.getD (4 * i + 3) 0) : Nat) : Int) = ((wd b i : Nat) : Int) from rfl, s2]
      rfl
    · left
      have : i = 16 := by omega
      subst this
      exact ⟨_, by simp only [sha_spread_l3, of_ (show ¬ ((16 : Nat) : Int) < 16 by omega), cond_false], rfl⟩)
  obtain ⟨r, hr, rfl⟩ := key ((ci b, (), (), 0, ()), (X, List.replicate 64 (0 : Int), ())) ⟨0, rfl, by omega⟩
  exact hr
theorem ext_len : ∀ (n : Nat) (W : List Nat), (ext n W).length = W.length + n
  | 0, W => rfl
  | n + 1, W => by rw [ext, ext_len n]; simp; omega
theorem ext_lt : ∀ (n : Nat) (W : List Nat), (∀ x ∈ W, x < M32) → ∀ x ∈ ext n W, x < M32
  | 0, W, h => h
  | n + 1, W, h => by
    rw [ext]
    refine ext_lt n _ fun x hx => ?_
    rcases List.mem_append.1 hx with hx | hx
    · exact h x hx
    · rw [List.mem_singleton] at hx; subst hx; exact mod_lt _
theorem sched_len (b : List Nat) : (sched b).length = 64 := by rw [sched, ext_len]; simp
theorem sched_lt {b : List Nat} (hb : ∀ x ∈ b, x < 256) : ∀ x ∈ sched b, x < M32 := ext_lt _ _ (sched0_lt hb 16)
theorem next_ok (a b c d : Nat) : wr .u32 (wr .u32 (wr .u32 ((a : Int) + ((sg0 b : Nat) : Int)) + (c : Int)) + ((sg1 d : Nat) : Int)) = ((((a + sg0 b) + c + sg1 d) % M32 : Nat) : Int) := by
  simp only [wr_add]
  rw [show (a : Int) + ((sg0 b : Nat) : Int) + (c : Int) + ((sg1 d : Nat) : Int) = ((a + sg0 b + c + sg1 d : Nat) : Int) by omega, wr32]
theorem spread8 (W0 : List Nat) (h0 : W0.length = 16) (hlt : ∀ x ∈ W0, x < M32) (X : List Int) : loopFix sha_spread_l8 (((), (), 16, ()), (X, ci W0 ++ List.replicate 48 (0 : Int), ())) = some (((), (), ()), (X, ci (ext 48 W0), ())) := by
  have key := loop_ind (b := sha_spread_l8) (fun d => ∃ (i : Nat) (W : List Nat), d = (((), (), (i : Int), ()), (X, ci W ++ List.replicate (64 - i) (0 : Int), ())) ∧ 16 ≤ i ∧ i ≤ 64 ∧ W.length = i ∧ (∀ x ∈ W, x < M32) ∧ ext (64 - i) W = ext 48 W0) (fun r => r = (((), (), ()), (X, ci (ext 48 W0), ()))) (fun d => 64 - d.1.2.2.1.toNat) (by
    rintro d ⟨i, W, rfl, hi0, hi, hW, hlt, hext⟩
    by_cases h : i < 64
    · right
      have e1 : wr .i64 ((i : Int) + 1) = ((i + 1 : Nat) : Int) := by rw [wr64 (by omega) (by omega)]; omega
      have e2 : wr .i64 ((i : Int) - 15) = ((i - 15 : Nat) : Int) := by rw [wr64 (by omega) (by omega)]; omega
      have e3 : wr .i64 ((i : Int) - 2) = ((i - 2 : Nat) : Int) := by rw [wr64 (by omega) (by omega)]; omega
      have e4 : wr .i64 ((i : Int) - 16) = ((i - 16 : Nat) : Int) := by rw [wr64 (by omega) (by omega)]; omega
      have e5 : wr .i64 ((i : Int) - 7) = ((i - 7 : Nat) : Int) := by rw [wr64 (by omega) (by omega)]; omega
      have g : ∀ j, W.getD j 0 < M32 := getD_lt m32_pos hlt
      have hr : 64 - i = (64 - (i + 1)) + 1 := by omega
      have s1 := fill_at W (64 - (i + 1))
      have s2 := fill_set W (64 - (i + 1)) (wnext W)
      rw [hW] at s1 s2
      have r7 := right_ok 7 (g (i - 15)) (by omega) (by omega)
      have r18 := right_ok 18 (g (i - 15)) (by omega) (by omega)
      have r17 := right_ok 17 (g (i - 2)) (by omega) (by omega)
      have r19 := right_ok 19 (g (i - 2)) (by omega) (by omega)
      have hn : wnext W = ((W.getD (i - 16) 0 + sg0 (W.getD (i - 15) 0)) + W.getD (i - 7) 0 + sg1 (W.getD (i - 2) 0)) % M32 := by rw [wnext, hW]
      refine ⟨(((), (), ((i + 1 : Nat) : Int), ()), (X, ci (W ++ [wnext W]) ++ List.replicate (64 - (i + 1)) (0 : Int), ())), ?_, ⟨i + 1, _, rfl, by omega, by omega, by simp [hW], fun x hx => ?_, ?_⟩, by simp only; omega⟩
      · rw [hr]
        simp only [sha_spread_l8, ot (show (i : Int) < 64 by omega), cond_true, e2, e3, e4, e5, ot (show (0 : Int) ≤ ((i - 15 : Nat) : Int) ∧ ((i - 15 : Nat) : Int) < ((64 : Nat) : Int) by omega), ot (show (0 : Int) ≤ ((i - 2 : Nat) : Int) ∧ ((i - 2 : Nat) : Int) < ((64 : Nat) : Int) by omega), ot (show (0 : Int) ≤ ((i - 16 : Nat) : Int) ∧ ((i - 16 : Nat) : Int) < ((64 : Nat) : Int) by omega), ot (show (0 : Int) ≤ ((i - 7 : Nat) : Int) ∧ ((i - 7 : Nat) : Int) < ((64 : Nat) : Int) by omega), Int.toNat_natCast, fill_get (show i - 15 < W.length by omega), fill_get (show i - 2 < W.length by omega), fill_get (show i - 16 < W.length by omega), fill_get (show i - 7 < W.length by omega), Option.bind_some]
        have r7' : sha_right ((((W.getD (i - 15) 0 : Nat) : Int), 7, ()), ()) = _ := r7
        have r18' : sha_right ((((W.getD (i - 15) 0 : Nat) : Int), 18, ()), ()) = _ := r18
        have r17' : sha_right ((((W.getD (i - 2) 0 : Nat) : Int), 17, ()), ()) = _ := r17
        have r19' : sha_right ((((W.getD (i - 2) 0 : Nat) : Int), 19, ()), ()) = _ := r19
        simp only [r7', r18', r17', r19', Option.bind_some, of_ (show ¬ (3 : Int) < 0 by omega), of_ (show ¬ (10 : Int) < 0 by omega), cond_false, e_sg0 (g (i - 15)), e_sg1 (g (i - 2)), next_ok, ot (show (0 : Int) ≤ (i : Int) ∧ (i : Int) < ((64 : Nat) : Int) by omega), cond_true, s1, e1, ← hn, s2]
      · rcases List.mem_append.1 hx with hx | hx
        · exact hlt x hx
        · rw [List.mem_singleton] at hx; subst hx; exact mod_lt _
      · rw [← hext, hr]; rfl
    · left
      have : i = 64 := by omega
      subst this
      have hW' : W = ext 48 W0 := hext
      refine ⟨_, by simp only [sha_spread_l8, of_ (show ¬ ((64 : Nat) : Int) < 64 by omega), cond_false]; rfl, ?_⟩
      rw [← hW']; simp)
  obtain ⟨r, hr, rfl⟩ := key (((), (), 16, ()), (X, ci W0 ++ List.replicate 48 (0 : Int), ())) ⟨16, W0, rfl, by omega, by omega, h0, hlt, rfl⟩
  exact hr
theorem spread_ok (b : List Nat) (hb : ∀ x ∈ b, x < 256) (hl : b.length = 64) : sha_spread ((ci b, ()), ()) = some ((ci (sched b), ()), ()) := by
  simp only [sha_spread, spread3 b hb hl, Option.bind_some, spread8 _ (by simp) (sched0_lt hb 16)]
  rfl
def P8 (s : S8) : Prop := ∀ x ∈ lst s, x < M32
theorem P8.rnd {s : S8} (h : P8 s) (k w : Nat) : P8 (rnd s k w) := by
  obtain ⟨a, b, c, d, e, f, g, i⟩ := s
  simp only [P8, lst, AM.rnd, List.forall_mem_cons] at h ⊢
  obtain ⟨h1, h2, h3, h4, h5, h6, h7, h8, _⟩ := h
  exact ⟨mod_lt _, h1, h2, h3, mod_lt _, h5, h6, h7, by simp⟩
theorem P8.addS (s t : S8) : P8 (addS s t) := by
  obtain ⟨a, b, c, d, e, f, g, i⟩ := s
  obtain ⟨a', b', c', d', e', f', g', i'⟩ := t
  simp only [P8, lst, AM.addS, List.forall_mem_cons]
  exact ⟨mod_lt _, mod_lt _, mod_lt _, mod_lt _, mod_lt _, mod_lt _, mod_lt _, mod_lt _, by simp⟩
theorem KN_len : KN.length = 64 := rfl
theorem rep8 : List.replicate 8 (0 : Int) = [0, 0, 0, 0, 0, 0, 0, 0] := rfl
theorem rounds_ok (W : List Nat) (hW : W.length = 64) (hlt : ∀ x ∈ W, x < M32) (s X : List Int) (S : S8) (hS : P8 S) : loopFix sha_mixed_l4 ((ci KN, (), (), (), (), 0, ()), (s, X, ci W, ci (lst S), ())) = some (((), (), (), ()), (s, X, ci W, ci (lst (rds W 64 0 S)), ())) := by
  have key := loop_ind (b := sha_mixed_l4) (fun d => ∃ (i : Nat) (T : S8), d = ((ci KN, (), (), (), (), (i : Int), ()), (s, X, ci W, ci (lst T), ())) ∧ i ≤ 64 ∧ P8 T ∧ rds W (64 - i) i T = rds W 64 0 S) (fun r => r = (((), (), (), ()), (s, X, ci W, ci (lst (rds W 64 0 S)), ()))) (fun d => 64 - d.1.2.2.2.2.2.1.toNat) (by
    rintro d ⟨i, T, rfl, hi, hT, hr⟩
    by_cases h : i < 64
    · right
      have e1 : wr .i64 ((i : Int) + 1) = ((i + 1 : Nat) : Int) := by rw [wr64 (by omega) (by omega)]; omega
      refine ⟨((ci KN, (), (), (), (), ((i + 1 : Nat) : Int), ()), (s, X, ci W, ci (lst (rnd T (KN.getD i 0) (W.getD i 0))), ())), ?_, ⟨i + 1, _, rfl, by omega, hT.rnd _ _, ?_⟩, by simp only; omega⟩
      · obtain ⟨a, b, c, d, e, f, g, k⟩ := T
        simp only [P8, lst, List.forall_mem_cons] at hT
        obtain ⟨ha, hb, hc, hd, he, hf, hg, hk, _⟩ := hT
        have r6 : sha_right (((e : Int), 6, ()), ()) = _ := right_ok 6 he (by omega) (by omega)
        have r11 : sha_right (((e : Int), 11, ()), ()) = _ := right_ok 11 he (by omega) (by omega)
        have r25 : sha_right (((e : Int), 25, ()), ()) = _ := right_ok 25 he (by omega) (by omega)
        have r2 : sha_right (((a : Int), 2, ()), ()) = _ := right_ok 2 ha (by omega) (by omega)
        have r13 : sha_right (((a : Int), 13, ()), ()) = _ := right_ok 13 ha (by omega) (by omega)
        have r22 : sha_right (((a : Int), 22, ()), ()) = _ := right_ok 22 ha (by omega) (by omega)
        have ht : ci (lst (a, b, c, d, e, f, g, k)) = [(a : Int), (b : Int), (c : Int), (d : Int), (e : Int), (f : Int), (g : Int), (k : Int)] := rfl
        have hn : ci (lst (rnd (a, b, c, d, e, f, g, k) (KN.getD i 0) (W.getD i 0))) = [(((rx e f g k (KN.getD i 0) (W.getD i 0) + ry a b c) % M32 : Nat) : Int), (a : Int), (b : Int), (c : Int), (((d + rx e f g k (KN.getD i 0) (W.getD i 0)) % M32 : Nat) : Int), (e : Int), (f : Int), (g : Int)] := rfl
        rw [ht, hn]
        simp only [sha_mixed_l4, ot (show (i : Int) < 64 by omega), cond_true, ot (show (0 : Int) ≤ 0 ∧ (0 : Int) < ((8 : Nat) : Int) by omega), ot (show (0 : Int) ≤ 1 ∧ (1 : Int) < ((8 : Nat) : Int) by omega), ot (show (0 : Int) ≤ 2 ∧ (2 : Int) < ((8 : Nat) : Int) by omega), ot (show (0 : Int) ≤ 3 ∧ (3 : Int) < ((8 : Nat) : Int) by omega), ot (show (0 : Int) ≤ 4 ∧ (4 : Int) < ((8 : Nat) : Int) by omega), ot (show (0 : Int) ≤ 5 ∧ (5 : Int) < ((8 : Nat) : Int) by omega), ot (show (0 : Int) ≤ 6 ∧ (6 : Int) < ((8 : Nat) : Int) by omega), ot (show (0 : Int) ≤ 7 ∧ (7 : Int) < ((8 : Nat) : Int) by omega),
          show (0 : Int).toNat = 0 from rfl, show (1 : Int).toNat = 1 from rfl, show (2 : Int).toNat = 2 from rfl, show (3 : Int).toNat = 3 from rfl, show (4 : Int).toNat = 4 from rfl, show (5 : Int).toNat = 5 from rfl, show (6 : Int).toNat = 6 from rfl, show (7 : Int).toNat = 7 from rfl, List.getElem?_cons_zero, List.getElem?_cons_succ, Option.bind_some, r6, r11, r25, r2, r13, r22, ot (show (0 : Int) ≤ (i : Int) ∧ (i : Int) < ((64 : Nat) : Int) by omega), Int.toNat_natCast, ci_get (show i < KN.length by rw [KN_len]; exact h), ci_get (show i < W.length by omega), rep8, List.set_cons_zero, List.set_cons_succ,
          e_bS1 he, e_ch he hf hg, e_rx, e_bS0 ha, e_ma ha hb hc, e_ry, e1]
        simp only [e_add]
      · rw [← hr, show 64 - i = (64 - (i + 1)) + 1 by omega]; rfl
    · left
      have : i = 64 := by omega
      subst this
      have hr' : T = rds W 64 0 S := hr
      exact ⟨_, by simp only [sha_mixed_l4, of_ (show ¬ ((64 : Nat) : Int) < 64 by omega), cond_false]; rfl, by rw [← hr']⟩)
  obtain ⟨r, hr, rfl⟩ := key ((ci KN, (), (), (), (), 0, ()), (s, X, ci W, ci (lst S), ())) ⟨0, S, rfl, by omega, hS, rfl⟩
  exact hr
theorem rds_P8 (W : List Nat) : ∀ (n i : Nat) (S : S8), P8 S → P8 (rds W n i S)
  | 0, _, _, h => h
  | n + 1, i, S, h => rds_P8 W n (i + 1) _ (h.rnd _ _)
theorem wrs (i j : Nat) (h : j = i + 1) (hi : i < 100) : wr .i64 ((i : Int) + 1) = (j : Int) := by rw [wr64 (by omega) (by omega)]; omega
theorem sums_ok (S T : S8) (X : List Int) : loopFix sha_mixed_l12 (((), (), (), 0, ()), (ci (lst S), X, ci (lst T), ())) = some (((), (), ()), (ci (lst (addS S T)), X, ci (lst T), ())) := by
  obtain ⟨a, b, c, d, e, f, g, k⟩ := S
  obtain ⟨a', b', c', d', e', f', g', k'⟩ := T
  have ht : ∀ a b c d e f g k : Nat, ci (lst (a, b, c, d, e, f, g, k)) = [(a : Int), (b : Int), (c : Int), (d : Int), (e : Int), (f : Int), (g : Int), (k : Int)] := fun _ _ _ _ _ _ _ _ => rfl
  simp only [addS, ht]
  have w0 : wr .i64 (0 + 1) = 1 := wr64 (by omega) (by omega)
  have w1 : wr .i64 (1 + 1) = 2 := wr64 (by omega) (by omega)
  have w2 : wr .i64 (2 + 1) = 3 := wr64 (by omega) (by omega)
  have w3 : wr .i64 (3 + 1) = 4 := wr64 (by omega) (by omega)
  have w4 : wr .i64 (4 + 1) = 5 := wr64 (by omega) (by omega)
  have w5 : wr .i64 (5 + 1) = 6 := wr64 (by omega) (by omega)
  have w6 : wr .i64 (6 + 1) = 7 := wr64 (by omega) (by omega)
  have w7 : wr .i64 (7 + 1) = 8 := wr64 (by omega) (by omega)
  iterate 9 (rw [loopFix_eq]; simp only [sha_mixed_l12, ot (show (0 : Int) < 8 by omega), ot (show (1 : Int) < 8 by omega), ot (show (2 : Int) < 8 by omega), ot (show (3 : Int) < 8 by omega), ot (show (4 : Int) < 8 by omega), ot (show (5 : Int) < 8 by omega), ot (show (6 : Int) < 8 by omega), ot (show (7 : Int) < 8 by omega), of_ (show ¬ (8 : Int) < 8 by omega), cond_true, cond_false, ot (show (0 : Int) ≤ 0 ∧ (0 : Int) < ((8 : Nat) : Int) by omega), ot (show (0 : Int) ≤ 1 ∧ (1 : Int) < ((8 : Nat) : Int) by omega), ot (show (0 : Int) ≤ 2 ∧ (2 : Int) < ((8 : Nat) : Int) by omega), ot (show (0 : Int) ≤ 3 ∧ (3 : Int) < ((8 : Nat) : Int) by omega), ot (show (0 : Int) ≤ 4 ∧ (4 : Int) < ((8 : Nat) : Int) by omega), ot (show (0 : Int) ≤ 5 ∧ (5 : Int) < ((8 : Nat) : Int) by omega), ot (show (0 : Int) ≤ 6 ∧ (6 : Int) < ((8 : Nat) : Int) by omega), ot (show (0 : Int) ≤ 7 ∧ (7 : Int) < ((8 : Nat) : Int) by omega),
    show (0 : Int).toNat = 0 from rfl, show (1 : Int).toNat = 1 from rfl, show (2 : Int).toNat = 2 from rfl, show (3 : Int).toNat = 3 from rfl, show (4 : Int).toNat = 4 from rfl, show (5 : Int).toNat = 5 from rfl, show (6 : Int).toNat = 6 from rfl, show (7 : Int).toNat = 7 from rfl, List.getElem?_cons_zero, List.getElem?_cons_succ, Option.bind_some, List.set_cons_zero, List.set_cons_succ, e_add, w0, w1, w2, w3, w4, w5, w6, w7])
theorem mixed_ok (S : S8) (hS : P8 S) (b : List Nat) (hb : ∀ x ∈ b, x < 256) (hl : b.length = 64) : sha_mixed ((ci (lst S), ci KN, ci b, ()), ()) = some ((ci (lst (comp S b)), ()), ()) := by
  simp only [sha_mixed, spread_ok b hb hl, Option.bind_some, rounds_ok (sched b) (sched_len b) (sched_lt hb) _ _ S hS, sums_ok]
  rfl
theorem words_ok : sha_words ((), ()) = some ((ci KN, ()), ()) := rfl
theorem first_ok : sha_first ((), ()) = some ((ci (lst H0), ()), ()) := rfl
/-! ### messages -/
theorem runF_more : ∀ (n k : Nat) (s : S8) (m : List Nat), m.length ≤ n → runF (n + k) s m = runF n s m
  | 0, k, s, m, h => by
    cases k with
    | zero => rfl
    | succ k => simp only [Nat.zero_add, runF]; rw [if_neg (by omega)]
  | n + 1, k, s, m, h => by
    rw [show n + 1 + k = (n + k) + 1 by omega]
    simp only [runF]
    split
    · exact runF_more n k _ _ (by rw [List.length_drop]; omega)
    · rfl
theorem run_eq (s : S8) (m : List Nat) : run s m = if 64 ≤ m.length then run (comp s (m.take 64)) (m.drop 64) else (s, m) := by
  rw [run]
  cases h : m.length with
  | zero => rw [if_neg (by omega)]; rfl
  | succ n =>
    simp only [runF, h]
    split
    · rename_i h64
      rw [run, List.length_drop, h]
      have := runF_more (n + 1 - 64) 63 (comp s (m.take 64)) (m.drop 64) (by rw [List.length_drop, h]; exact Nat.le_refl _)
      rw [← this, show n + 1 - 64 + 63 = n by omega]
    · rfl
theorem run_few {s : S8} {m : List Nat} (h : m.length < 64) : run s m = (s, m) := by rw [run_eq, if_neg (by omega)]
theorem run_go {s : S8} {m : List Nat} (h : 64 ≤ m.length) : run s m = run (comp s (m.take 64)) (m.drop 64) := by rw [run_eq, if_pos h]
theorem run_ind {Q : S8 → List Nat → Prop} (h0 : ∀ s m, m.length < 64 → Q s m) (h1 : ∀ s m, 64 ≤ m.length → Q (comp s (m.take 64)) (m.drop 64) → Q s m) : ∀ m s, Q s m := by
  have key : ∀ n m s, m.length ≤ n → Q s m := by
    intro n
    induction n with
    | zero => intro m s hm; exact h0 s m (by omega)
    | succ n ih =>
      intro m s hm
      by_cases h : 64 ≤ m.length
      · exact h1 s m h (ih _ _ (by rw [List.length_drop]; omega))
      · exact h0 s m (by omega)
  exact fun m s => key m.length m s (Nat.le_refl _)
theorem run_app (b : List Nat) : ∀ m s, run s (m ++ b) = run (run s m).1 ((run s m).2 ++ b) := by
  refine run_ind (fun s m h => ?_) (fun s m h ih => ?_)
  · rw [run_few h]
  · rw [run_go h, ← ih, run_go (by rw [List.length_append]; omega), List.take_append_of_le_length h, List.drop_append_of_le_length h]
theorem run_left : ∀ m s, (run s m).2.length = m.length % 64 := by
  refine run_ind (fun s m h => ?_) (fun s m h ih => ?_)
  · rw [run_few h]; simp only; omega
  · rw [run_go h, ih, List.length_drop]; omega
theorem run_P8 : ∀ m s, P8 s → P8 (run s m).1 := by
  refine run_ind (fun s m h hs => ?_) (fun s m h ih hs => ?_)
  · rw [run_few h]; exact hs
  · rw [run_go h]; exact ih (P8.addS _ _)
theorem run_mem : ∀ m s, ∀ x ∈ (run s m).2, x ∈ m := by
  refine run_ind (fun s m h x hx => ?_) (fun s m h ih x hx => ?_)
  · rw [run_few h] at hx; exact hx
  · rw [run_go h] at hx; exact List.mem_of_mem_drop (ih x hx)
theorem H0_P8 : P8 H0 := by unfold P8; decide
/-! ### the hash -/
abbrev hob (d : Int) (K s : List Int) (n : Int) : (Unit × (Unit × Int × Unit) × (Unit × (Int × Int × Unit) × Unit) × Unit) × (List Int) × (List Int) × Unit × Int × Unit := (((), ((), d, ()), ((), (0, 0, ()), ()), ()), K, s, (), n, ())
/-- the hash of what was written; was it asked yet? -/
abbrev hs (c : Bool) (w : List Nat) : (Unit × (Unit × Int × Unit) × (Unit × (Int × Int × Unit) × Unit) × Unit) × (List Int) × (List Int) × Unit × Int × Unit := hob (bif c then 1 else 0) (bif c then ci KN else List.replicate 64 (0 : Int)) (ci (lst (run H0 w).1)) (w.length : Int)
theorem new_ok : sha_New ((), ()) = some (((), ()), (hs false [], ci (run H0 []).2, ())) := by
  rw [sha_New, first_ok]; rfl
theorem ready_ok (c : Bool) (w : List Nat) (L : List Int) : sha_Hash_ready (((), ()), (hs c w, L, ())) = some ((), (hs true w, L, ())) := by
  cases c with
  | true => simp only [sha_Hash_ready, hs, hob, cond_true, of_ (show ¬ (1 : Int) = 0 by omega), cond_false]
  | false => simp only [sha_Hash_ready, hs, hob, cond_true, cond_false, ot (show (0 : Int) = 0 from rfl), sha_Hash_ready_1, words_ok, Option.bind_some, ot (show (1 : Int) = 1 from rfl), odT]
theorem t64 : (64 : Int).toNat = 64 := rfl
theorem t640 : ((64 : Int) - (0 : Int)).toNat = 64 := rfl
theorem write_loop (d n : Int) : ∀ (m : List Nat) (S : S8), P8 S → (∀ x ∈ m, x < 256) → loopFix sha_Hash_Write_l3 (((), ()), (hob d (ci KN) (ci (lst S)) n, ci m, ())) = some (((), ()), (hob d (ci KN) (ci (lst (run S m).1)) n, ci (run S m).2, ())) := by
  refine run_ind (fun S m h hS hb => ?_) (fun S m h ih hS hb => ?_)
  · rw [run_few h, loopFix_eq]
    simp only [sha_Hash_Write_l3, hob, of_ (show ¬ ((ci m).length : Int) ≥ 64 by rw [ci_len]; omega), cond_false]
  · rw [run_go h, loopFix_eq]
    have e1 := mixed_ok S hS (m.take 64) (fun x hx => hb x (List.mem_of_mem_take hx)) (by rw [List.length_take]; omega)
    have e2 := ih (P8.addS _ _) (fun x hx => hb x (List.mem_of_mem_drop hx))
    simp only [sha_Hash_Write_l3, hob, ot (show ((ci m).length : Int) ≥ 64 by rw [ci_len]; omega), cond_true, ot (show (0 : Int) ≤ 0 ∧ (0 : Int) ≤ 64 ∧ (64 : Int) ≤ ((ci m).length : Int) by rw [ci_len]; omega), t640, ci_take, e1, Option.bind_some, ot (show (0 : Int) ≤ 64 ∧ (64 : Int) ≤ ((ci m).length : Int) by rw [ci_len]; omega), t64, ci_drop]
    exact e2
theorem write_ok (c : Bool) (w b : List Nat) (hw : ∀ x ∈ w, x < 256) (hb : ∀ x ∈ b, x < 256) (hl : w.length + b.length ≤ 1000000) : sha_Hash_Write (((), ci b, ()), (hs c w, ci (run H0 w).2, ())) = some ((), (hs true (w ++ b), ci (run H0 (w ++ b)).2, ())) := by
  have hleft := run_left w H0
  have e0 : odec ((((ci (run H0 w).2).length + (ci b).length : Nat) : Int) * ((1 : Nat) : Int) ≤ (room : Nat)) = true := inRoom (by rw [ci_len, ci_len]; omega)
  have e1 : wr .i64 ((w.length : Int) + ((ci b).length : Int)) = ((w ++ b).length : Int) := by rw [ci_len, wr64 (by omega) (by omega), List.length_append]; omega
  have hm : ∀ x ∈ (run H0 w).2 ++ b, x < 256 := fun x hx => (List.mem_append.1 hx).elim (fun h => hw x (run_mem w H0 x h)) (hb x)
  have e2 := write_loop 1 ((w ++ b).length : Int) ((run H0 w).2 ++ b) (run H0 w).1 (run_P8 w H0 H0_P8) hm
  rw [← run_app] at e2
  have hl2 := run_left (w ++ b) H0
  have e3 : odec (((([] : List Int).length + (ci (run H0 (w ++ b)).2).length : Nat) : Int) * ((1 : Nat) : Int) ≤ (room : Nat)) = true := inRoom (by rw [ci_len, List.length_nil]; omega)
  have hr := ready_ok c w (ci (run H0 w).2)
  rw [ci_app] at e2
  simp only [hs, hob, cond_true] at hr e2 ⊢
  simp only [sha_Hash_Write, hr, Option.bind_some, e0, cond_true, e1, e2, e3, List.nil_append]
theorem wr8n (n : Nat) : wr .u8 (n : Int) = ((n % 256 : Nat) : Int) := by rw [wr_eq, IntKind.wrap_u8]; omega
theorem zn_lt (n : Nat) : zn n < 64 := Nat.mod_lt _ (by decide)
theorem zn_ok (n : Nat) : (n + zn n) % 64 = 56 := by unfold zn; omega
theorem zn_min (n j : Nat) (h : (n + j) % 64 = 56) (hj : j ≤ zn n) : j = zn n := by unfold zn at *; omega
theorem pad_loop (H : (Unit × (Unit × Int × Unit) × (Unit × (Int × Int × Unit) × Unit) × Unit) × (List Int) × (List Int) × Unit × Int × Unit) (hH : ∃ d K s n, H = hob d K s n) (A B : List Int) (m : List Nat) (hm : m.length ≤ 1000000) : loopFix sha_Hash_Sum_l4 (((), (), (), ()), (H, A, B, ci m, ())) = some (((), (), (), ()), (H, B, ci (m ++ List.replicate (zn m.length) 0), A, ())) := by
  obtain ⟨d, K, s, n, rfl⟩ := hH
  have key := loop_ind (b := sha_Hash_Sum_l4) (fun x => ∃ j : Nat, x = (((), (), (), ()), (hob d K s n, A, B, ci (m ++ List.replicate j 0), ())) ∧ j ≤ zn m.length) (fun r => r = (((), (), (), ()), (hob d K s n, B, ci (m ++ List.replicate (zn m.length) 0), A, ()))) (fun x => zn m.length + m.length - x.2.2.2.2.1.length) (by
    rintro x ⟨j, rfl, hj⟩
    have hz := zn_lt m.length
    have e0 : (ci (m ++ List.replicate j 0)).length = m.length + j := by rw [ci_len]; simp
    have et : Int.tmod ((m.length + j : Nat) : Int) 64 = (((m.length + j) % 64 : Nat) : Int) := by rw [Int.tmod_eq_emod_of_nonneg (by omega)]; omega
    by_cases h : (m.length + j) % 64 = 56
    · left
      have := zn_min m.length j h hj
      subst this
      refine ⟨_, ?_, rfl⟩
      simp only [sha_Hash_Sum_l4, hob, of_ (show ¬ (64 : Int) = 0 by omega), cond_false, e0, et, ot (show (((m.length + zn m.length) % 64 : Nat) : Int) = 56 by omega), Bool.not_true]
    · right
      have hlt : j < zn m.length := by
        rcases Nat.lt_or_eq_of_le hj with h1 | h1
        · exact h1
        · subst h1; exact absurd (zn_ok m.length) h
      have e1 : odec (((m.length + j + ([0] : List Int).length : Nat) : Int) * ((1 : Nat) : Int) ≤ (room : Nat)) = true := inRoom (by simp only [List.length_cons, List.length_nil]; omega)
      have e2 : ci (m ++ List.replicate j 0) ++ ([0] : List Int) = ci (m ++ List.replicate (j + 1) 0) := by
        rw [List.replicate_succ', ← List.append_assoc, ci_app (m ++ List.replicate j 0)]; rfl
      refine ⟨(((), (), (), ()), (hob d K s n, A, B, ci (m ++ List.replicate (j + 1) 0), ())), ?_, ⟨j + 1, rfl, hlt⟩, ?_⟩
      · simp only [sha_Hash_Sum_l4, hob, of_ (show ¬ (64 : Int) = 0 by omega), cond_false, e0, et, of_ (show ¬ (((m.length + j) % 64 : Nat) : Int) = 56 by omega), Bool.not_false, cond_true, e1, e2]
      · simp only [e0]
        rw [ci_len]; simp only [List.length_append, List.length_replicate]; omega)
  obtain ⟨r, hr, rfl⟩ := key (((), (), (), ()), (hob d K s n, A, B, ci m, ())) ⟨0, by simp, by omega⟩
  exact hr
def be8 (v : Nat) : List Nat := [(v >>> 56) % 256, (v >>> 48) % 256, (v >>> 40) % 256, (v >>> 32) % 256, (v >>> 24) % 256, (v >>> 16) % 256, (v >>> 8) % 256, (v >>> 0) % 256]
theorem be8_eq {v : Nat} (h : v < M32) : be8 v = be64 v := by
  have z : ∀ n, 32 ≤ n → (v >>> n) % 256 = 0 := fun n hn => by
    have : v >>> n = 0 := by
      rw [Nat.shiftRight_eq_div_pow]
      exact Nat.div_eq_of_lt (Nat.lt_of_lt_of_le h (show M32 ≤ 2 ^ n from Nat.pow_le_pow_right (n := 2) (by decide) hn))
    rw [this]
  simp only [be8, be64, be4, z 56 (by omega), z 48 (by omega), z 40 (by omega), z 32 (by omega), Nat.shiftRight_zero]
  rfl
theorem len_loop (H : (Unit × (Unit × Int × Unit) × (Unit × (Int × Int × Unit) × Unit) × Unit) × (List Int) × (List Int) × Unit × Int × Unit) (hH : ∃ d K s n, H = hob d K s n) (A B : List Int) (v : Nat) (m : List Nat) (hm : m.length ≤ 1001000) : loopFix sha_Hash_Sum_l8 (((), (), (), (v : Int), 7, ()), (H, A, B, ci m, ())) = some (((), (), ci (m ++ be8 v), ()), (H, B, A, ())) := by
  obtain ⟨d, K, s, n, rfl⟩ := hH
  have key := loop_ind (b := sha_Hash_Sum_l8) (fun x => ∃ j : Nat, x = (((), (), (), (v : Int), 7 - (j : Int), ()), (hob d K s n, A, B, ci (m ++ (be8 v).take j), ())) ∧ j ≤ 8) (fun r => r = (((), (), ci (m ++ be8 v), ()), (hob d K s n, B, A, ()))) (fun x => (x.1.2.2.2.2.1 + 1).toNat) (by
    rintro x ⟨j, rfl, hj⟩
    by_cases h : j < 8
    · right
      have e0 : (ci (m ++ (be8 v).take j)).length = m.length + j := by rw [ci_len, List.length_append, List.length_take, show (be8 v).length = 8 from rfl]; omega
      have e2 : wr .u64 (wr .i64 (8 * (7 - (j : Int)))) = ((8 * (7 - j) : Nat) : Int) := by rw [wr64 (by omega) (by omega), wr_eq, IntKind.wrap_u64]; omega
      have e3 : shr .u64 (v : Int) ((8 * (7 - j) : Nat) : Int) = ((v >>> (8 * (7 - j)) : Nat) : Int) := shr_nat .u64 v _ (by show 8 * (7 - j) ≤ 64; omega)
      have e4 : wr .i64 (7 - (j : Int) - 1) = 7 - ((j + 1 : Nat) : Int) := by rw [wr64 (by omega) (by omega)]; omega
      have e5 : (be8 v)[j]? = some ((v >>> (8 * (7 - j))) % 256) := by
        have : j = 0 ∨ j = 1 ∨ j = 2 ∨ j = 3 ∨ j = 4 ∨ j = 5 ∨ j = 6 ∨ j = 7 := by omega
        rcases this with rfl | rfl | rfl | rfl | rfl | rfl | rfl | rfl <;> rfl
      have e6 : ci (m ++ (be8 v).take (j + 1)) = ci (m ++ (be8 v).take j) ++ [((((v >>> (8 * (7 - j))) % 256 : Nat)) : Int)] := by
        rw [List.take_add_one, e5, ← List.append_assoc, ci_app]; rfl
      have e7 : odec (((m.length + j + ([((((v >>> (8 * (7 - j))) % 256 : Nat)) : Int)] : List Int).length : Nat) : Int) * ((1 : Nat) : Int) ≤ (room : Nat)) = true := inRoom (by simp only [List.length_cons, List.length_nil]; omega)
      refine ⟨(((), (), (), (v : Int), 7 - ((j + 1 : Nat) : Int), ()), (hob d K s n, A, B, ci (m ++ (be8 v).take (j + 1)), ())), ?_, ⟨j + 1, rfl, h⟩, by simp only; omega⟩
      rw [e6]
      simp only [sha_Hash_Sum_l8, hob, ot (show 7 - (j : Int) ≥ 0 by omega), cond_true, e2, of_ (show ¬ ((8 * (7 - j) : Nat) : Int) < 0 by omega), cond_false, e3, wr8n, e0, e7, e4]
    · left
      have : j = 8 := by omega
      subst this
      refine ⟨_, ?_, rfl⟩
      simp only [sha_Hash_Sum_l8, hob, of_ (show ¬ 7 - ((8 : Nat) : Int) ≥ 0 by omega), cond_false, show (be8 v).take 8 = be8 v from rfl])
  obtain ⟨r, hr, rfl⟩ := key (((), (), (), (v : Int), 7, ()), (hob d K s n, A, B, ci m, ())) ⟨0, by simp, by omega⟩
  exact hr
theorem blocks_loop (d n : Int) (sx : List Int) (A B : List Int) : ∀ (m : List Nat) (S : S8), P8 S → (∀ x ∈ m, x < 256) → m.length % 64 = 0 → loopFix sha_Hash_Sum_l12 (((), (), ci m, (), ()), (hob d (ci KN) sx n, A, B, ci (lst S), ())) = some (((), (), ()), (hob d (ci KN) sx n, B, ci (lst (run S m).1), A, ())) := by
  refine run_ind (fun S m h hS hb h0 => ?_) (fun S m h ih hS hb h0 => ?_)
  · have : m = [] := List.eq_nil_of_length_eq_zero (by omega)
    subst this
    rw [run_few h, loopFix_eq]
    simp only [sha_Hash_Sum_l12, hob, of_ (show ¬ ((ci []).length : Int) > 0 by simp [ci]), cond_false]
  · rw [run_go h, loopFix_eq]
    have e1 := mixed_ok S hS (m.take 64) (fun x hx => hb x (List.mem_of_mem_take hx)) (by rw [List.length_take]; omega)
    have e2 := ih (P8.addS _ _) (fun x hx => hb x (List.mem_of_mem_drop hx)) (by rw [List.length_drop]; omega)
    simp only [sha_Hash_Sum_l12, hob, ot (show ((ci m).length : Int) > 0 by rw [ci_len]; omega), cond_true, ot (show (0 : Int) ≤ 0 ∧ (0 : Int) ≤ 64 ∧ (64 : Int) ≤ ((ci m).length : Int) by rw [ci_len]; omega), ci_take, t64, e1, Option.bind_some, ot (show (0 : Int) ≤ 64 ∧ (64 : Int) ≤ ((ci m).length : Int) ∧ ((ci m).length : Int) ≤ ((ci m).length : Int) by rw [ci_len]; omega), ci_drop]
    exact e2
theorem quad (A : List Nat) (m x : Nat) : let q0 := ci A ++ List.replicate (m + 4) (0 : Int); let q1 := ci (A ++ [(x >>> 24) % 256]) ++ List.replicate (m + 3) (0 : Int); let q2 := ci (A ++ [(x >>> 24) % 256] ++ [(x >>> 16) % 256]) ++ List.replicate (m + 2) (0 : Int); let q3 := ci (A ++ [(x >>> 24) % 256] ++ [(x >>> 16) % 256] ++ [(x >>> 8) % 256]) ++ List.replicate (m + 1) (0 : Int);
    q0[A.length]? = some 0 ∧ q0.set A.length (((x >>> 24) % 256 : Nat) : Int) = q1 ∧ q1[A.length + 1]? = some 0 ∧ q1.set (A.length + 1) (((x >>> 16) % 256 : Nat) : Int) = q2 ∧ q2[A.length + 2]? = some 0 ∧ q2.set (A.length + 2) (((x >>> 8) % 256 : Nat) : Int) = q3 ∧ q3[A.length + 3]? = some 0 ∧ q3.set (A.length + 3) ((x % 256 : Nat) : Int) = ci (A ++ be4 x) ++ List.replicate m (0 : Int) := by
  intro q0 q1 q2 q3
  have l1 : (A ++ [(x >>> 24) % 256]).length = A.length + 1 := by simp
  have l2 : (A ++ [(x >>> 24) % 256] ++ [(x >>> 16) % 256]).length = A.length + 2 := by simp
  have l3 : (A ++ [(x >>> 24) % 256] ++ [(x >>> 16) % 256] ++ [(x >>> 8) % 256]).length = A.length + 3 := by simp
  refine ⟨fill_at A (m + 3), fill_set A (m + 3) _, ?_, ?_, ?_, ?_, ?_, ?_⟩
  · have := fill_at (A ++ [(x >>> 24) % 256]) (m + 2); rwa [l1] at this
  · have := fill_set (A ++ [(x >>> 24) % 256]) (m + 2) ((x >>> 16) % 256); rwa [l1] at this
  · have := fill_at (A ++ [(x >>> 24) % 256] ++ [(x >>> 16) % 256]) (m + 1); rwa [l2] at this
  · have := fill_set (A ++ [(x >>> 24) % 256] ++ [(x >>> 16) % 256]) (m + 1) ((x >>> 8) % 256); rwa [l2] at this
  · have := fill_at (A ++ [(x >>> 24) % 256] ++ [(x >>> 16) % 256] ++ [(x >>> 8) % 256]) m; rwa [l3] at this
  · have := fill_set (A ++ [(x >>> 24) % 256] ++ [(x >>> 16) % 256] ++ [(x >>> 8) % 256]) m (x % 256)
    rw [l3] at this
    rw [this]
    simp only [be4, List.append_assoc, List.cons_append, List.nil_append]
theorem byte24 (x : Nat) : wr .u8 (shr .u32 (x : Int) 24) = (((x >>> 24) % 256 : Nat) : Int) := by
  have e : shr .u32 (x : Int) 24 = ((x >>> 24 : Nat) : Int) := shr32 x 24 (by omega)
  rw [e, wr8n]
theorem byte16 (x : Nat) : wr .u8 (shr .u32 (x : Int) 16) = (((x >>> 16) % 256 : Nat) : Int) := by
  have e : shr .u32 (x : Int) 16 = ((x >>> 16 : Nat) : Int) := shr32 x 16 (by omega)
  rw [e, wr8n]
theorem byte8 (x : Nat) : wr .u8 (shr .u32 (x : Int) 8) = (((x >>> 8) % 256 : Nat) : Int) := by
  have e : shr .u32 (x : Int) 8 = ((x >>> 8 : Nat) : Int) := shr32 x 8 (by omega)
  rw [e, wr8n]
def outA (xs : List Nat) (i : Nat) : List Nat := (List.range i).flatMap fun j => be4 (xs.getD j 0)
theorem outA_len (xs : List Nat) : ∀ i, (outA xs i).length = 4 * i
  | 0 => rfl
  | i + 1 => by
    have := outA_len xs i
    rw [outA] at this ⊢
    rw [List.range_succ, List.flatMap_append, List.length_append, this]
    simp [be4]; omega
theorem outA_succ (xs : List Nat) (i : Nat) : outA xs (i + 1) = outA xs i ++ be4 (xs.getD i 0) := by
  rw [outA, List.range_succ, List.flatMap_append]; simp [outA]
theorem out_loop (X : List Int) (S : S8) : loopFix sha_Hash_Sum_l17 (((), (), ci (lst S), 0, ()), (X, List.replicate 32 (0 : Int), ())) = some (((), (), ()), (X, ci (outN S), ())) := by
  have hl : (lst S).length = 8 := rfl
  have key := loop_ind (b := sha_Hash_Sum_l17) (fun d => ∃ i : Nat, d = (((), (), ci (lst S), (i : Int), ()), (X, ci (outA (lst S) i) ++ List.replicate (32 - 4 * i) (0 : Int), ())) ∧ i ≤ 8) (fun r => r = (((), (), ()), (X, ci (outN S), ()))) (fun d => 8 - d.1.2.2.2.1.toNat) (by
    rintro d ⟨i, rfl, hi⟩
    by_cases h : i < 8
    · right
      have e1 : wr .i64 ((i : Int) + 1) = ((i + 1 : Nat) : Int) := by rw [wr64 (by omega) (by omega)]; omega
      have e2 : wr .i64 (4 * (i : Int)) = ((4 * i : Nat) : Int) := by rw [wr64 (by omega) (by omega)]; omega
      have e3 : wr .i64 (((4 * i : Nat) : Int) + 1) = ((4 * i + 1 : Nat) : Int) := by rw [wr64 (by omega) (by omega)]; omega
      have e4 : wr .i64 (((4 * i : Nat) : Int) + 2) = ((4 * i + 2 : Nat) : Int) := by rw [wr64 (by omega) (by omega)]; omega
      have e5 : wr .i64 (((4 * i : Nat) : Int) + 3) = ((4 * i + 3 : Nat) : Int) := by rw [wr64 (by omega) (by omega)]; omega
      obtain ⟨q0, q1, q2, q3, q4, q5, q6, q7⟩ := quad (outA (lst S) i) (32 - 4 * (i + 1)) ((lst S).getD i 0)
      rw [outA_len] at q0 q1 q2 q3 q4 q5 q6 q7
      refine ⟨(((), (), ci (lst S), ((i + 1 : Nat) : Int), ()), (X, ci (outA (lst S) (i + 1)) ++ List.replicate (32 - 4 * (i + 1)) (0 : Int), ())), ?_, ⟨i + 1, rfl, h⟩, by simp only; omega⟩
      rw [outA_succ, show 32 - 4 * i = 32 - 4 * (i + 1) + 4 by omega]
      simp only [sha_Hash_Sum_l17, ot (show (i : Int) < 8 by omega), cond_true, ot (show (0 : Int) ≤ (i : Int) ∧ (i : Int) < ((8 : Nat) : Int) by omega), Int.toNat_natCast, ci_get (show i < (lst S).length by omega), Option.bind_some, of_ (show ¬ (24 : Int) < 0 by omega), of_ (show ¬ (16 : Int) < 0 by omega), of_ (show ¬ (8 : Int) < 0 by omega), cond_false, e2, e3, e4, e5, byte24, byte16, byte8, wr8n,
        ot (show (0 : Int) ≤ ((4 * i : Nat) : Int) ∧ ((4 * i : Nat) : Int) < ((32 : Nat) : Int) by omega), ot (show (0 : Int) ≤ ((4 * i + 1 : Nat) : Int) ∧ ((4 * i + 1 : Nat) : Int) < ((32 : Nat) : Int) by omega), ot (show (0 : Int) ≤ ((4 * i + 2 : Nat) : Int) ∧ ((4 * i + 2 : Nat) : Int) < ((32 : Nat) : Int) by omega), ot (show (0 : Int) ≤ ((4 * i + 3 : Nat) : Int) ∧ ((4 * i + 3 : Nat) : Int) < ((32 : Nat) : Int) by omega), q0, q1, q2, q3, q4, q5, q6, q7, e1]
    · left
      have : i = 8 := by omega
      subst this
      refine ⟨_, by simp only [sha_Hash_Sum_l17, of_ (show ¬ ((8 : Nat) : Int) < 8 by omega), cond_false]; rfl, ?_⟩
      have : outA (lst S) 8 = outN S := rfl
      rw [this]; simp)
  obtain ⟨r, hr, rfl⟩ := key (((), (), ci (lst S), 0, ()), (X, List.replicate 32 (0 : Int), ())) ⟨0, rfl, by omega⟩
  exact hr
theorem be4_lt (x : Nat) : ∀ y ∈ be4 x, y < 256 := by
  intro y hy
  simp only [be4, List.mem_cons, List.not_mem_nil, or_false] at hy
  omega
theorem outN_lt (S : S8) : ∀ y ∈ outN S, y < 256 := by
  intro y hy
  obtain ⟨x, _, h⟩ := List.mem_flatMap.1 hy
  exact be4_lt x y h
theorem outN_len (S : S8) : (outN S).length = 32 := rfl
theorem sha_len (w : List Nat) : (shaN w).length = 32 := rfl
theorem sha_lt (w : List Nat) : ∀ y ∈ shaN w, y < 256 := outN_lt _
theorem sum_ok (c : Bool) (w : List Nat) (hw : ∀ x ∈ w, x < 256) (hl : w.length ≤ 1000000) : sha_Hash_Sum (((), ()), (hs c w, ci (run H0 w).2, ())) = some ((ci (shaN w), ()), (hs true w, ci (run H0 w).2, ())) := by
  have hleft := run_left w H0
  have hlt : (run H0 w).2.length < 64 := by rw [hleft]; exact Nat.mod_lt _ (by decide)
  have e0 : odec (((([] : List Int).length + (ci (run H0 w).2).length : Nat) : Int) * ((1 : Nat) : Int) ≤ (room : Nat)) = true := inRoom (by rw [ci_len, List.length_nil]; omega)
  have e1 : odec ((((ci (run H0 w).2).length + ([128] : List Int).length : Nat) : Int) * ((1 : Nat) : Int) ≤ (room : Nat)) = true := inRoom (by rw [ci_len, List.length_cons, List.length_nil]; omega)
  have e2 : ci (run H0 w).2 ++ ([128] : List Int) = ci ((run H0 w).2 ++ [128]) := by rw [ci_app]; rfl
  have hz : zn ((run H0 w).2 ++ [128]).length = zn (w.length + 1) := by
    rw [List.length_append, hleft, List.length_cons, List.length_nil]; unfold zn; omega
  have p1 := pad_loop (hs true w) ⟨_, _, _, _, rfl⟩ (ci (run H0 w).2) (List.replicate 32 (0 : Int)) ((run H0 w).2 ++ [128]) (by rw [List.length_append, List.length_cons, List.length_nil]; omega)
  rw [hz] at p1
  have ev : wr .u64 (wr .u64 (w.length : Int) * 8) = ((8 * w.length : Nat) : Int) := by simp only [wr_eq, IntKind.wrap_u64]; omega
  have zl := zn_lt (w.length + 1)
  have p2 := len_loop (hs true w) ⟨_, _, _, _, rfl⟩ (ci (run H0 w).2) (List.replicate 32 (0 : Int)) (8 * w.length) (((run H0 w).2 ++ [128]) ++ List.replicate (zn (w.length + 1)) 0) (by simp only [List.length_append, List.length_replicate, List.length_cons, List.length_nil]; omega)
  rw [be8_eq (by simp only [M32]; omega)] at p2
  have hm : ((run H0 w).2 ++ [128]) ++ List.replicate (zn (w.length + 1)) 0 ++ be64 (8 * w.length) = (run H0 w).2 ++ pad w.length := by simp only [pad, List.append_assoc]
  rw [hm] at p2
  have hml : ((run H0 w).2 ++ pad w.length).length % 64 = 0 := by
    have := zn_ok (w.length + 1)
    have l8 : (be64 (8 * w.length)).length = 8 := rfl
    simp only [pad, List.length_append, List.length_replicate, List.length_cons, List.length_nil, l8, hleft]
    omega
  have hmb : ∀ x ∈ (run H0 w).2 ++ pad w.length, x < 256 := by
    intro x hx
    rcases List.mem_append.1 hx with h | h
    · exact hw x (run_mem w H0 x h)
    · simp only [pad, be64, List.mem_append, List.mem_replicate] at h
      rcases h with h | h | h | h
      · simp at h; omega
      · omega
      · simp at h; omega
      · exact be4_lt _ x h
  have p3 := blocks_loop 1 (w.length : Int) (ci (lst (run H0 w).1)) (ci (run H0 w).2) (List.replicate 32 (0 : Int)) _ (run H0 w).1 (run_P8 w H0 H0_P8) hmb hml
  rw [← run_app] at p3
  have p4 := out_loop (List.replicate 32 (0 : Int)) (run H0 (w ++ pad w.length)).1
  have hr := ready_ok c w (ci (run H0 w).2)
  simp only [hs, hob, cond_true] at hr p1 p2 p3 ⊢
  simp only [sha_Hash_Sum, hr, Option.bind_some, e0, cond_true, List.nil_append, e1, e2, p1, ev, p2, p3, p4]
  rfl
theorem shaSum_ok (w : List Nat) (hw : ∀ x ∈ w, x < 256) (hl : w.length ≤ 1000000) : sha_Sum ((ci w, ()), ()) = some ((ci (shaN w), ()), ()) := by
  have h1 := write_ok false [] w (by simp) hw (by simpa using hl)
  rw [List.nil_append] at h1
  have h2 := sum_ok true w hw hl
  simp only [hs, hob] at h1 h2
  have h0 := new_ok
  simp only [hs, hob] at h0
  simp only [sha_Sum, h0, Option.bind_some, h1, h2]
/-! ### the document's own -/
theorem turn_ok {x : Nat} (n : Nat) (hx : x < M32) (h1 : 1 ≤ n) (h2 : n ≤ 31) : jobberref1_turn (((x : Int), (n : Int), ()), ()) = some ((((rotN x n : Nat) : Int), ()), ()) := by
  have e1 : wr .i64 (32 - (n : Int)) = ((32 - n : Nat) : Int) := by rw [wr64 (by omega) (by omega)]; omega
  have e5 : bor .u32 ((x >>> n : Nat) : Int) (((x <<< (32 - n)) % M32 : Nat) : Int) = ((rotN x n : Nat) : Int) := by rw [bor32 (sr_lt n hx) (mod_lt _)]; rfl
  simp only [jobberref1_turn, e1, of_ (show ¬ ((32 - n : Nat) : Int) < 0 by omega), of_ (show ¬ ((n : Nat) : Int) < 0 by omega), cond_false]
  rw [shl32 x (32 - n) (by omega), shr32 x n (by omega), e5]
theorem rnext_ok (a b c d : Nat) : wr .u32 (wr .u32 (wr .u32 ((a : Int) + (c : Int)) + ((sg0 b : Nat) : Int)) + ((sg1 d : Nat) : Int)) = ((((a + sg0 b) + c + sg1 d) % M32 : Nat) : Int) := by
  simp only [wr_add]
  rw [show (a : Int) + (c : Int) + ((sg0 b : Nat) : Int) + ((sg1 d : Nat) : Int) = ((a + sg0 b + c + sg1 d : Nat) : Int) by omega, wr32]
theorem getD_cut (m : List Nat) (a j : Nat) (h : j < 64) : ((m.drop a).take 64).getD j 0 = m.getD (a + j) 0 := by
  rw [List.getD_eq_getElem?_getD, List.getD_eq_getElem?_getD, List.getElem?_take_of_lt h, List.getElem?_drop]
theorem ref_sched (m : List Nat) (hm : ∀ x ∈ m, x < 256) (a : Nat) (ha : a + 64 ≤ m.length) (hl : m.length ≤ 2000000) (X h K : List Int) : loopFix jobberref1_Sha_l12 (((), ci m, (), (), (a : Int), (), 0, ()), (X, h, K, List.replicate 64 (0 : Int), ())) = some (((), ci m, (), (), (a : Int), (), ()), (X, h, K, ci (sched ((m.drop a).take 64)), ())) := by
  have key := loop_ind (b := jobberref1_Sha_l12) (fun d => ∃ (i : Nat) (W : List Nat), d = (((), ci m, (), (), (a : Int), (), (i : Int), ()), (X, h, K, ci W ++ List.replicate (64 - i) (0 : Int), ())) ∧ i ≤ 64 ∧ W.length = i ∧ (∀ x ∈ W, x < M32) ∧ ((i ≤ 16 ∧ W = (List.range i).map (wd ((m.drop a).take 64))) ∨ (16 ≤ i ∧ ext (64 - i) W = sched ((m.drop a).take 64)))) (fun r => r = (((), ci m, (), (), (a : Int), (), ()), (X, h, K, ci (sched ((m.drop a).take 64)), ()))) (fun d => 64 - d.1.2.2.2.2.2.2.1.toNat) (by
    rintro d ⟨i, W, rfl, hi, hW, hlt, hc⟩
    have hbb : ∀ x ∈ (m.drop a).take 64, x < 256 := fun x hx => hm x (List.mem_of_mem_drop (List.mem_of_mem_take hx))
    by_cases h64 : i < 64
    · right
      have e1 : wr .i64 ((i : Int) + 1) = ((i + 1 : Nat) : Int) := by rw [wr64 (by omega) (by omega)]; omega
      have hr : 64 - i = (64 - (i + 1)) + 1 := by omega
      have s1 := fill_at W (64 - (i + 1))
      rw [hW] at s1
      by_cases h16 : i < 16
      · have hWd : W = (List.range i).map (wd ((m.drop a).take 64)) := by
          rcases hc with hc | hc
          · exact hc.2
          · omega
        have e0 : wr .i64 (4 * (i : Int)) = ((4 * i : Nat) : Int) := by rw [wr64 (by omega) (by omega)]; omega
        have e2 : wr .i64 ((a : Int) + ((4 * i : Nat) : Int)) = ((a + 4 * i : Nat) : Int) := by rw [wr64 (by omega) (by omega)]; omega
        have e3 : wr .i64 (((a + 4 * i : Nat) : Int) + 1) = ((a + (4 * i + 1) : Nat) : Int) := by rw [wr64 (by omega) (by omega)]; omega
        have e4 : wr .i64 (((a + 4 * i : Nat) : Int) + 2) = ((a + (4 * i + 2) : Nat) : Int) := by rw [wr64 (by omega) (by omega)]; omega
        have e5 : wr .i64 (((a + 4 * i : Nat) : Int) + 3) = ((a + (4 * i + 3) : Nat) : Int) := by rw [wr64 (by omega) (by omega)]; omega
        have g : ∀ j, m.getD j 0 < 256 := getD_lt (by omega) hm
        have hw := e_word (g (a + 4 * i)) (g (a + (4 * i + 1))) (g (a + (4 * i + 2))) (g (a + (4 * i + 3)))
        have hwd : wordN (m.getD (a + 4 * i) 0) (m.getD (a + (4 * i + 1)) 0) (m.getD (a + (4 * i + 2)) 0) (m.getD (a + (4 * i + 3)) 0) = wd ((m.drop a).take 64) i := by
          rw [wd, getD_cut _ _ _ (by omega), getD_cut _ _ _ (by omega), getD_cut _ _ _ (by omega), getD_cut _ _ _ (by omega)]
        rw [hwd] at hw
        have s2 := fill_set W (64 - (i + 1)) (wd ((m.drop a).take 64) i)
        rw [hW] at s2
        have hW2 : W ++ [wd ((m.drop a).take 64) i] = (List.range (i + 1)).map (wd ((m.drop a).take 64)) := by rw [hWd, List.range_succ, List.map_append]; rfl
        refine ⟨(((), ci m, (), (), (a : Int), (), ((i + 1 : Nat) : Int), ()), (X, h, K, ci (W ++ [wd ((m.drop a).take 64) i]) ++ List.replicate (64 - (i + 1)) (0 : Int), ())), ?_, ⟨i + 1, _, rfl, by omega, by simp [hW], by rw [hW2]; exact sched0_lt hbb _, .inl ⟨by omega, hW2⟩⟩, by simp only; omega⟩
        rw [hr]
        simp only [jobberref1_Sha_l12, ot (show (i : Int) < 64 by omega), ot (show (i : Int) < 16 by omega), cond_true, e0, e2, e3, e4, e5, ot (show (0 : Int) ≤ ((a + 4 * i : Nat) : Int) by omega), ot (show (0 : Int) ≤ ((a + (4 * i + 1) : Nat) : Int) by omega), ot (show (0 : Int) ≤ ((a + (4 * i + 2) : Nat) : Int) by omega), ot (show (0 : Int) ≤ ((a + (4 * i + 3) : Nat) : Int) by omega), Int.toNat_natCast, ci_get (show a + 4 * i < m.length by omega), ci_get (show a + (4 * i + 1) < m.length by omega), ci_get (show a + (4 * i + 2) < m.length by omega), ci_get (show a + (4 * i + 3) < m.length by omega), Option.bind_some,
          of_ (show ¬ (24 : Int) < 0 by omega), of_ (show ¬ (16 : Int) < 0 by omega), of_ (show ¬ (8 : Int) < 0 by omega), cond_false, ot (show (0 : Int) ≤ (i : Int) ∧ (i : Int) < ((64 : Nat) : Int) by omega), s1, hw, s2, e1]
      · have hext : ext (64 - i) W = sched ((m.drop a).take 64) := by
          rcases hc with hc | hc
          · have : i = 16 := by omega
            subst this
            rw [hc.2]; rfl
          · exact hc.2
        have e2 : wr .i64 ((i : Int) - 15) = ((i - 15 : Nat) : Int) := by rw [wr64 (by omega) (by omega)]; omega
        have e3 : wr .i64 ((i : Int) - 2) = ((i - 2 : Nat) : Int) := by rw [wr64 (by omega) (by omega)]; omega
        have e4 : wr .i64 ((i : Int) - 16) = ((i - 16 : Nat) : Int) := by rw [wr64 (by omega) (by omega)]; omega
        have e5 : wr .i64 ((i : Int) - 7) = ((i - 7 : Nat) : Int) := by rw [wr64 (by omega) (by omega)]; omega
        have g : ∀ j, W.getD j 0 < M32 := getD_lt m32_pos hlt
        have s2 := fill_set W (64 - (i + 1)) (wnext W)
        rw [hW] at s2
        have r7 : jobberref1_turn ((((W.getD (i - 15) 0 : Nat) : Int), 7, ()), ()) = _ := turn_ok 7 (g (i - 15)) (by omega) (by omega)
        have r18 : jobberref1_turn ((((W.getD (i - 15) 0 : Nat) : Int), 18, ()), ()) = _ := turn_ok 18 (g (i - 15)) (by omega) (by omega)
        have r17 : jobberref1_turn ((((W.getD (i - 2) 0 : Nat) : Int), 17, ()), ()) = _ := turn_ok 17 (g (i - 2)) (by omega) (by omega)
        have r19 : jobberref1_turn ((((W.getD (i - 2) 0 : Nat) : Int), 19, ()), ()) = _ := turn_ok 19 (g (i - 2)) (by omega) (by omega)
        have hn : wnext W = ((W.getD (i - 16) 0 + sg0 (W.getD (i - 15) 0)) + W.getD (i - 7) 0 + sg1 (W.getD (i - 2) 0)) % M32 := by rw [wnext, hW]
        refine ⟨(((), ci m, (), (), (a : Int), (), ((i + 1 : Nat) : Int), ()), (X, h, K, ci (W ++ [wnext W]) ++ List.replicate (64 - (i + 1)) (0 : Int), ())), ?_, ⟨i + 1, _, rfl, by omega, by simp [hW], fun x hx => ?_, .inr ⟨by omega, ?_⟩⟩, by simp only; omega⟩
        · rw [hr]
          simp only [jobberref1_Sha_l12, ot (show (i : Int) < 64 by omega), of_ (show ¬ (i : Int) < 16 by omega), cond_true, cond_false, e2, e3, e4, e5, ot (show (0 : Int) ≤ ((i - 15 : Nat) : Int) ∧ ((i - 15 : Nat) : Int) < ((64 : Nat) : Int) by omega), ot (show (0 : Int) ≤ ((i - 2 : Nat) : Int) ∧ ((i - 2 : Nat) : Int) < ((64 : Nat) : Int) by omega), ot (show (0 : Int) ≤ ((i - 16 : Nat) : Int) ∧ ((i - 16 : Nat) : Int) < ((64 : Nat) : Int) by omega), ot (show (0 : Int) ≤ ((i - 7 : Nat) : Int) ∧ ((i - 7 : Nat) : Int) < ((64 : Nat) : Int) by omega), Int.toNat_natCast, fill_get (show i - 15 < W.length by omega), fill_get (show i - 2 < W.length by omega), fill_get (show i - 16 < W.length by omega), fill_get (show i - 7 < W.length by omega), Option.bind_some,
            r7, r18, r17, r19, of_ (show ¬ (3 : Int) < 0 by omega), of_ (show ¬ (10 : Int) < 0 by omega), e_sg0 (g (i - 15)), e_sg1 (g (i - 2)), rnext_ok, ot (show (0 : Int) ≤ (i : Int) ∧ (i : Int) < ((64 : Nat) : Int) by omega), s1, e1, ← hn, s2]
        · rcases List.mem_append.1 hx with hx | hx
          · exact hlt x hx
          · rw [List.mem_singleton] at hx; subst hx; exact mod_lt _
        · rw [← hext, hr]; rfl
    · left
      have : i = 64 := by omega
      subst this
      have hW' : W = sched ((m.drop a).take 64) := by
        rcases hc with hc | hc
        · omega
        · exact hc.2
      refine ⟨_, by simp only [jobberref1_Sha_l12, of_ (show ¬ ((64 : Nat) : Int) < 64 by omega), cond_false]; rfl, ?_⟩
      rw [← hW']; simp)
  obtain ⟨r, hr, rfl⟩ := key (((), ci m, (), (), (a : Int), (), 0, ()), (X, h, K, List.replicate 64 (0 : Int), ())) ⟨0, [], rfl, by omega, rfl, by simp, .inl ⟨by omega, rfl⟩⟩
  exact hr
theorem ref_rounds (m : List Int) (a : Int) (X h : List Int) (W : List Nat) (hW : W.length = 64) (S : S8) (hS : P8 S) : loopFix jobberref1_Sha_l20 (((), m, (), (), a, (), (), 0, ()), (X, h, ci KN, ci W, ci (lst S), ())) = some (((), m, (), (), a, (), ()), (X, h, ci KN, ci W, ci (lst (rds W 64 0 S)), ())) := by
  have key := loop_ind (b := jobberref1_Sha_l20) (fun d => ∃ (i : Nat) (T : S8), d = (((), m, (), (), a, (), (), (i : Int), ()), (X, h, ci KN, ci W, ci (lst T), ())) ∧ i ≤ 64 ∧ P8 T ∧ rds W (64 - i) i T = rds W 64 0 S) (fun r => r = (((), m, (), (), a, (), ()), (X, h, ci KN, ci W, ci (lst (rds W 64 0 S)), ()))) (fun d => 64 - d.1.2.2.2.2.2.2.2.1.toNat) (by
    rintro d ⟨i, T, rfl, hi, hT, hr⟩
    by_cases h : i < 64
    · right
      have e1 : wr .i64 ((i : Int) + 1) = ((i + 1 : Nat) : Int) := by rw [wr64 (by omega) (by omega)]; omega
      refine ⟨(((), m, (), (), a, (), (), ((i + 1 : Nat) : Int), ()), (X, _, ci KN, ci W, ci (lst (rnd T (KN.getD i 0) (W.getD i 0))), ())), ?_, ⟨i + 1, _, rfl, by omega, hT.rnd _ _, ?_⟩, by simp only; omega⟩
      · obtain ⟨a, b, c, d, e, f, g, k⟩ := T
        simp only [P8, lst, List.forall_mem_cons] at hT
        obtain ⟨ha, hb, hc, hd, he, hf, hg, hk, _⟩ := hT
        have r6 : jobberref1_turn (((e : Int), 6, ()), ()) = _ := turn_ok 6 he (by omega) (by omega)
        have r11 : jobberref1_turn (((e : Int), 11, ()), ()) = _ := turn_ok 11 he (by omega) (by omega)
        have r25 : jobberref1_turn (((e : Int), 25, ()), ()) = _ := turn_ok 25 he (by omega) (by omega)
        have r2 : jobberref1_turn (((a : Int), 2, ()), ()) = _ := turn_ok 2 ha (by omega) (by omega)
        have r13 : jobberref1_turn (((a : Int), 13, ()), ()) = _ := turn_ok 13 ha (by omega) (by omega)
        have r22 : jobberref1_turn (((a : Int), 22, ()), ()) = _ := turn_ok 22 ha (by omega) (by omega)
        have ht : ci (lst (a, b, c, d, e, f, g, k)) = [(a : Int), (b : Int), (c : Int), (d : Int), (e : Int), (f : Int), (g : Int), (k : Int)] := rfl
        have hn : ci (lst (rnd (a, b, c, d, e, f, g, k) (KN.getD i 0) (W.getD i 0))) = [(((rx e f g k (KN.getD i 0) (W.getD i 0) + ry a b c) % M32 : Nat) : Int), (a : Int), (b : Int), (c : Int), (((d + rx e f g k (KN.getD i 0) (W.getD i 0)) % M32 : Nat) : Int), (e : Int), (f : Int), (g : Int)] := rfl
        rw [ht, hn]
        simp only [jobberref1_Sha_l20, ot (show (i : Int) < 64 by omega), cond_true, ot (show (0 : Int) ≤ 0 ∧ (0 : Int) < ((8 : Nat) : Int) by omega), ot (show (0 : Int) ≤ 1 ∧ (1 : Int) < ((8 : Nat) : Int) by omega), ot (show (0 : Int) ≤ 2 ∧ (2 : Int) < ((8 : Nat) : Int) by omega), ot (show (0 : Int) ≤ 3 ∧ (3 : Int) < ((8 : Nat) : Int) by omega), ot (show (0 : Int) ≤ 4 ∧ (4 : Int) < ((8 : Nat) : Int) by omega), ot (show (0 : Int) ≤ 5 ∧ (5 : Int) < ((8 : Nat) : Int) by omega), ot (show (0 : Int) ≤ 6 ∧ (6 : Int) < ((8 : Nat) : Int) by omega), ot (show (0 : Int) ≤ 7 ∧ (7 : Int) < ((8 : Nat) : Int) by omega),
          show (0 : Int).toNat = 0 from rfl, show (1 : Int).toNat = 1 from rfl, show (2 : Int).toNat = 2 from rfl, show (3 : Int).toNat = 3 from rfl, show (4 : Int).toNat = 4 from rfl, show (5 : Int).toNat = 5 from rfl, show (6 : Int).toNat = 6 from rfl, show (7 : Int).toNat = 7 from rfl, List.getElem?_cons_zero, List.getElem?_cons_succ, Option.bind_some, r6, r11, r25, r2, r13, r22, ot (show (0 : Int) ≤ (i : Int) ∧ (i : Int) < ((64 : Nat) : Int) by omega), Int.toNat_natCast, ci_get (show i < KN.length by rw [KN_len]; exact h), ci_get (show i < W.length by omega), rep8, List.set_cons_zero, List.set_cons_succ,
          e_bS1 he, e_ch he hf hg, e_rx, e_bS0 ha, e_ma ha hb hc, e_ry, e1]
        simp only [e_add]
      · rw [← hr, show 64 - i = (64 - (i + 1)) + 1 by omega]; rfl
    · left
      have : i = 64 := by omega
      subst this
      have hr' : T = rds W 64 0 S := hr
      exact ⟨_, by simp only [jobberref1_Sha_l20, of_ (show ¬ ((64 : Nat) : Int) < 64 by omega), cond_false]; rfl, by rw [← hr']⟩)
  obtain ⟨r, hr, rfl⟩ := key (((), m, (), (), a, (), (), 0, ()), (X, h, ci KN, ci W, ci (lst S), ())) ⟨0, S, rfl, by omega, hS, rfl⟩
  exact hr
theorem ref_sums (m : List Int) (at_ : Int) (X : List Int) (S T : S8) : loopFix jobberref1_Sha_l26 (((), m, (), (), at_, (), 0, ()), (X, ci (lst S), ci KN, ci (lst T), ())) = some (((), m, (), (), at_, ()), (X, ci (lst (addS S T)), ci KN, ci (lst T), ())) := by
  obtain ⟨a, b, c, d, e, f, g, k⟩ := S
  obtain ⟨a', b', c', d', e', f', g', k'⟩ := T
  have ht : ∀ a b c d e f g k : Nat, ci (lst (a, b, c, d, e, f, g, k)) = [(a : Int), (b : Int), (c : Int), (d : Int), (e : Int), (f : Int), (g : Int), (k : Int)] := fun _ _ _ _ _ _ _ _ => rfl
  simp only [addS, ht]
  have w0 : wr .i64 (0 + 1) = 1 := wr64 (by omega) (by omega)
  have w1 : wr .i64 (1 + 1) = 2 := wr64 (by omega) (by omega)
  have w2 : wr .i64 (2 + 1) = 3 := wr64 (by omega) (by omega)
  have w3 : wr .i64 (3 + 1) = 4 := wr64 (by omega) (by omega)
  have w4 : wr .i64 (4 + 1) = 5 := wr64 (by omega) (by omega)
  have w5 : wr .i64 (5 + 1) = 6 := wr64 (by omega) (by omega)
  have w6 : wr .i64 (6 + 1) = 7 := wr64 (by omega) (by omega)
  have w7 : wr .i64 (7 + 1) = 8 := wr64 (by omega) (by omega)
  iterate 9 (rw [loopFix_eq]; simp only [jobberref1_Sha_l26, ot (show (0 : Int) < 8 by omega), ot (show (1 : Int) < 8 by omega), ot (show (2 : Int) < 8 by omega), ot (show (3 : Int) < 8 by omega), ot (show (4 : Int) < 8 by omega), ot (show (5 : Int) < 8 by omega), ot (show (6 : Int) < 8 by omega), ot (show (7 : Int) < 8 by omega), of_ (show ¬ (8 : Int) < 8 by omega), cond_true, cond_false, ot (show (0 : Int) ≤ 0 ∧ (0 : Int) < ((8 : Nat) : Int) by omega), ot (show (0 : Int) ≤ 1 ∧ (1 : Int) < ((8 : Nat) : Int) by omega), ot (show (0 : Int) ≤ 2 ∧ (2 : Int) < ((8 : Nat) : Int) by omega), ot (show (0 : Int) ≤ 3 ∧ (3 : Int) < ((8 : Nat) : Int) by omega), ot (show (0 : Int) ≤ 4 ∧ (4 : Int) < ((8 : Nat) : Int) by omega), ot (show (0 : Int) ≤ 5 ∧ (5 : Int) < ((8 : Nat) : Int) by omega), ot (show (0 : Int) ≤ 6 ∧ (6 : Int) < ((8 : Nat) : Int) by omega), ot (show (0 : Int) ≤ 7 ∧ (7 : Int) < ((8 : Nat) : Int) by omega),
    show (0 : Int).toNat = 0 from rfl, show (1 : Int).toNat = 1 from rfl, show (2 : Int).toNat = 2 from rfl, show (3 : Int).toNat = 3 from rfl, show (4 : Int).toNat = 4 from rfl, show (5 : Int).toNat = 5 from rfl, show (6 : Int).toNat = 6 from rfl, show (7 : Int).toNat = 7 from rfl, List.getElem?_cons_zero, List.getElem?_cons_succ, Option.bind_some, List.set_cons_zero, List.set_cons_succ, e_add, w0, w1, w2, w3, w4, w5, w6, w7])
theorem ref_blocks (m : List Nat) (hm : ∀ x ∈ m, x < 256) (hl : m.length ≤ 2000000) (h0 : m.length % 64 = 0) (X : List Int) (S : S8) (hS : P8 S) : loopFix jobberref1_Sha_l8 (((), ci m, (), (), 0, ()), (X, ci (lst S), ci KN, ())) = some (((), (), ()), (X, ci (lst (run S m).1), ci KN, ())) := by
  have key := loop_ind (b := jobberref1_Sha_l8) (fun d => ∃ (a : Nat) (T : S8), d = (((), ci m, (), (), (a : Int), ()), (X, ci (lst T), ci KN, ())) ∧ a ≤ m.length ∧ a % 64 = 0 ∧ P8 T ∧ run T (m.drop a) = run S m) (fun r => r = (((), (), ()), (X, ci (lst (run S m).1), ci KN, ()))) (fun d => m.length - d.1.2.2.2.2.1.toNat) (by
    rintro d ⟨a, T, rfl, ha, ha0, hT, hr⟩
    by_cases h : a < m.length
    · right
      have e1 : wr .i64 ((a : Int) + 64) = ((a + 64 : Nat) : Int) := by rw [wr64 (by omega) (by omega)]; omega
      have g1 := ref_sched m hm a (by omega) hl X (ci (lst T)) (ci KN)
      have g2 := ref_rounds (ci m) (a : Int) X (ci (lst T)) (sched ((m.drop a).take 64)) (sched_len _) T hT
      have g3 := ref_sums (ci m) (a : Int) X T (rds (sched ((m.drop a).take 64)) 64 0 T)
      refine ⟨(((), ci m, (), (), ((a + 64 : Nat) : Int), ()), (X, ci (lst (comp T ((m.drop a).take 64))), ci KN, ())), ?_, ⟨a + 64, _, rfl, by omega, by omega, P8.addS _ _, ?_⟩, by simp only; omega⟩
      · simp only [jobberref1_Sha_l8, ot (show (a : Int) < ((ci m).length : Int) by rw [ci_len]; omega), cond_true, g1, Option.bind_some, g2, g3, e1]
        rfl
      · rw [← hr, run_go (m := m.drop a) (by rw [List.length_drop]; omega), List.drop_drop]
    · left
      have : a = m.length := by omega
      subst this
      rw [List.drop_length, run_few (by simp)] at hr
      refine ⟨_, by simp only [jobberref1_Sha_l8, of_ (show ¬ ((m.length : Nat) : Int) < ((ci m).length : Int) by rw [ci_len]; omega), cond_false]; rfl, ?_⟩
      rw [← hr])
  obtain ⟨r, hr, rfl⟩ := key (((), ci m, (), (), 0, ()), (X, ci (lst S), ci KN, ())) ⟨0, S, rfl, by omega, rfl, hS, rfl⟩
  exact hr
theorem ref_out (X : List Int) (S : S8) : loopFix jobberref1_Sha_l32 (((), (), ci (lst S), 0, ()), (X, List.replicate 32 (0 : Int), ())) = some (((), (), ()), (X, ci (outN S), ())) := by
  have hl : (lst S).length = 8 := rfl
  have key := loop_ind (b := jobberref1_Sha_l32) (fun d => ∃ i : Nat, d = (((), (), ci (lst S), (i : Int), ()), (X, ci (outA (lst S) i) ++ List.replicate (32 - 4 * i) (0 : Int), ())) ∧ i ≤ 8) (fun r => r = (((), (), ()), (X, ci (outN S), ()))) (fun d => 8 - d.1.2.2.2.1.toNat) (by
    rintro d ⟨i, rfl, hi⟩
    by_cases h : i < 8
    · right
      have e1 : wr .i64 ((i : Int) + 1) = ((i + 1 : Nat) : Int) := by rw [wr64 (by omega) (by omega)]; omega
      have e2 : wr .i64 (4 * (i : Int)) = ((4 * i : Nat) : Int) := by rw [wr64 (by omega) (by omega)]; omega
      have e3 : wr .i64 (((4 * i : Nat) : Int) + 1) = ((4 * i + 1 : Nat) : Int) := by rw [wr64 (by omega) (by omega)]; omega
      have e4 : wr .i64 (((4 * i : Nat) : Int) + 2) = ((4 * i + 2 : Nat) : Int) := by rw [wr64 (by omega) (by omega)]; omega
      have e5 : wr .i64 (((4 * i : Nat) : Int) + 3) = ((4 * i + 3 : Nat) : Int) := by rw [wr64 (by omega) (by omega)]; omega
      obtain ⟨q0, q1, q2, q3, q4, q5, q6, q7⟩ := quad (outA (lst S) i) (32 - 4 * (i + 1)) ((lst S).getD i 0)
      rw [outA_len] at q0 q1 q2 q3 q4 q5 q6 q7
      refine ⟨(((), (), ci (lst S), ((i + 1 : Nat) : Int), ()), (X, ci (outA (lst S) (i + 1)) ++ List.replicate (32 - 4 * (i + 1)) (0 : Int), ())), ?_, ⟨i + 1, rfl, h⟩, by simp only; omega⟩
      rw [outA_succ, show 32 - 4 * i = 32 - 4 * (i + 1) + 4 by omega]
      simp only [jobberref1_Sha_l32, ot (show (i : Int) < 8 by omega), cond_true, ot (show (0 : Int) ≤ (i : Int) ∧ (i : Int) < ((8 : Nat) : Int) by omega), Int.toNat_natCast, ci_get (show i < (lst S).length by omega), Option.bind_some, of_ (show ¬ (24 : Int) < 0 by omega), of_ (show ¬ (16 : Int) < 0 by omega), of_ (show ¬ (8 : Int) < 0 by omega), cond_false, e2, e3, e4, e5, byte24, byte16, byte8, wr8n,
        ot (show (0 : Int) ≤ ((4 * i : Nat) : Int) ∧ ((4 * i : Nat) : Int) < ((32 : Nat) : Int) by omega), ot (show (0 : Int) ≤ ((4 * i + 1 : Nat) : Int) ∧ ((4 * i + 1 : Nat) : Int) < ((32 : Nat) : Int) by omega), ot (show (0 : Int) ≤ ((4 * i + 2 : Nat) : Int) ∧ ((4 * i + 2 : Nat) : Int) < ((32 : Nat) : Int) by omega), ot (show (0 : Int) ≤ ((4 * i + 3 : Nat) : Int) ∧ ((4 * i + 3 : Nat) : Int) < ((32 : Nat) : Int) by omega), q0, q1, q2, q3, q4, q5, q6, q7, e1]
    · left
      have : i = 8 := by omega
      subst this
      refine ⟨_, by simp only [jobberref1_Sha_l32, of_ (show ¬ ((8 : Nat) : Int) < 8 by omega), cond_false]; rfl, ?_⟩
      have : outA (lst S) 8 = outN S := rfl
      rw [this]; simp)
  obtain ⟨r, hr, rfl⟩ := key (((), (), ci (lst S), 0, ()), (X, List.replicate 32 (0 : Int), ())) ⟨0, rfl, by omega⟩
  exact hr
theorem ref_pad (b : List Int) (X : List Int) (m : List Nat) (hm : m.length ≤ 1000001) : loopFix jobberref1_Sha_l2 ((b, (), (), ()), (X, ci m, ())) = some ((b, (), ci (m ++ List.replicate (zn m.length) 0), ()), (X, ())) := by
  have key := loop_ind (b := jobberref1_Sha_l2) (fun x => ∃ j : Nat, x = ((b, (), (), ()), (X, ci (m ++ List.replicate j 0), ())) ∧ j ≤ zn m.length) (fun r => r = ((b, (), ci (m ++ List.replicate (zn m.length) 0), ()), (X, ()))) (fun x => zn m.length + m.length - x.2.2.1.length) (by
    rintro x ⟨j, rfl, hj⟩
    have hz := zn_lt m.length
    have e0 : (ci (m ++ List.replicate j 0)).length = m.length + j := by rw [ci_len]; simp
    have et : Int.tmod ((m.length + j : Nat) : Int) 64 = (((m.length + j) % 64 : Nat) : Int) := by rw [Int.tmod_eq_emod_of_nonneg (by omega)]; omega
    by_cases h : (m.length + j) % 64 = 56
    · left
      have := zn_min m.length j h hj
      subst this
      refine ⟨_, ?_, rfl⟩
      simp only [jobberref1_Sha_l2, of_ (show ¬ (64 : Int) = 0 by omega), cond_false, e0, et, ot (show (((m.length + zn m.length) % 64 : Nat) : Int) = 56 by omega), Bool.not_true]
    · right
      have hlt : j < zn m.length := by
        rcases Nat.lt_or_eq_of_le hj with h1 | h1
        · exact h1
        · subst h1; exact absurd (zn_ok m.length) h
      have e1 : odec (((m.length + j + ([0] : List Int).length : Nat) : Int) * ((1 : Nat) : Int) ≤ (room : Nat)) = true := inRoom (by simp only [List.length_cons, List.length_nil]; omega)
      have e2 : ci (m ++ List.replicate j 0) ++ ([0] : List Int) = ci (m ++ List.replicate (j + 1) 0) := by
        rw [List.replicate_succ', ← List.append_assoc, ci_app (m ++ List.replicate j 0)]; rfl
      refine ⟨((b, (), (), ()), (X, ci (m ++ List.replicate (j + 1) 0), ())), ?_, ⟨j + 1, rfl, hlt⟩, ?_⟩
      · simp only [jobberref1_Sha_l2, of_ (show ¬ (64 : Int) = 0 by omega), cond_false, e0, et, of_ (show ¬ (((m.length + j) % 64 : Nat) : Int) = 56 by omega), Bool.not_false, cond_true, e1, e2]
      · simp only [e0]
        rw [ci_len]; simp only [List.length_append, List.length_replicate]; omega)
  obtain ⟨r, hr, rfl⟩ := key ((b, (), (), ()), (X, ci m, ())) ⟨0, by simp, by omega⟩
  exact hr
theorem refU32 (m : List Nat) (x : Nat) (hm : m.length ≤ 2000000) : jobberref1_U32 ((ci m, (x : Int), ()), ()) = some (((), ()), (ci (m ++ be4 x), ())) := by
  have e1 : odec (((([] : List Int).length + (ci m).length : Nat) : Int) * ((1 : Nat) : Int) ≤ (room : Nat)) = true := inRoom (by rw [ci_len, List.length_nil]; omega)
  have e2 : ∀ a b c d : Int, odec ((((ci m).length + ([a, b, c, d] : List Int).length : Nat) : Int) * ((1 : Nat) : Int) ≤ (room : Nat)) = true := fun a b c d => inRoom (by rw [ci_len]; simp only [List.length_cons, List.length_nil]; omega)
  simp only [jobberref1_U32, e1, cond_true, of_ (show ¬ (24 : Int) < 0 by omega), of_ (show ¬ (16 : Int) < 0 by omega), of_ (show ¬ (8 : Int) < 0 by omega), cond_false, List.nil_append, e2, byte24, byte16, byte8, wr8n, ci_app]
  rfl
theorem refU64 (m : List Nat) (v : Nat) (hv : v < M32) (hm : m.length ≤ 1500000) : jobberref1_U64 ((ci m, (v : Int), ()), ()) = some (((), ()), (ci (m ++ be64 v), ())) := by
  have e1 : shr .u64 (v : Int) 32 = ((v >>> 32 : Nat) : Int) := shr_nat .u64 v 32 (by decide)
  have e2 : v >>> 32 = 0 := by
    rw [Nat.shiftRight_eq_div_pow]; exact Nat.div_eq_of_lt hv
  have g1 := refU32 m 0 (by omega)
  have g2 := refU32 (m ++ be4 0) v (by rw [List.length_append, show (be4 0).length = 4 from rfl]; omega)
  have e3 : wr .u32 ((0 : Nat) : Int) = ((0 : Nat) : Int) := wr32_id (by decide)
  have e4 : m ++ be4 0 ++ be4 v = m ++ be64 v := by rw [List.append_assoc]; rfl
  simp only [jobberref1_U64, of_ (show ¬ (32 : Int) < 0 by omega), cond_false, e1, e2, e3, g1, Option.bind_some, wr32_id hv, g2, e4]
theorem refSha_ok (w : List Nat) (hw : ∀ x ∈ w, x < 256) (hl : w.length ≤ 1000000) : jobberref1_Sha ((ci w, ()), ()) = some ((ci (shaN w), ()), ()) := by
  have e0 : odec (((([] : List Int).length + (ci w).length : Nat) : Int) * ((1 : Nat) : Int) ≤ (room : Nat)) = true := inRoom (by rw [ci_len, List.length_nil]; omega)
  have e1 : odec ((((ci w).length + ([128] : List Int).length : Nat) : Int) * ((1 : Nat) : Int) ≤ (room : Nat)) = true := inRoom (by rw [ci_len, List.length_cons, List.length_nil]; omega)
  have e2 : ci w ++ ([128] : List Int) = ci (w ++ [128]) := by rw [ci_app]; rfl
  have p1 := ref_pad (ci w) (List.replicate 32 (0 : Int)) (w ++ [128]) (by simp; omega)
  have hz : (w ++ [128]).length = w.length + 1 := by simp
  rw [hz] at p1
  have zl := zn_lt (w.length + 1)
  have ev : wr .u64 (8 * wr .u64 ((ci w).length : Int)) = ((8 * w.length : Nat) : Int) := by rw [ci_len]; simp only [wr_eq, IntKind.wrap_u64]; omega
  have p2 := refU64 (w ++ [128] ++ List.replicate (zn (w.length + 1)) 0) (8 * w.length) (by simp only [M32]; omega) (by simp only [List.length_append, List.length_replicate, List.length_cons, List.length_nil]; omega)
  have hm : w ++ [128] ++ List.replicate (zn (w.length + 1)) 0 ++ be64 (8 * w.length) = w ++ pad w.length := by simp only [pad, List.append_assoc]
  rw [hm] at p2
  have hml : (w ++ pad w.length).length % 64 = 0 ∧ (w ++ pad w.length).length ≤ 2000000 := by
    have := zn_ok (w.length + 1)
    have l8 : (be64 (8 * w.length)).length = 8 := rfl
    simp only [pad, List.length_append, List.length_replicate, List.length_cons, List.length_nil, l8]
    omega
  have hmb : ∀ x ∈ w ++ pad w.length, x < 256 := by
    intro x hx
    rcases List.mem_append.1 hx with h | h
    · exact hw x h
    · simp only [pad, be64, List.mem_append, List.mem_replicate] at h
      rcases h with h | h | h | h
      · simp at h; omega
      · omega
      · simp at h; omega
      · exact be4_lt _ x h
  have p3 := ref_blocks _ hmb hml.2 hml.1 (List.replicate 32 (0 : Int)) H0 H0_P8
  have p4 := ref_out (List.replicate 32 (0 : Int)) (run H0 (w ++ pad w.length)).1
  have hk : jobberref1_words ((), ()) = some ((ci KN, ()), ()) := rfl
  have hh : ((((((((List.replicate 8 (0 : Int)).set 0 1779033703).set 1 3144134277).set 2 1013904242).set 3 2773480762).set 4 1359893119).set 5 2600822924).set 6 528734635).set 7 1541459225 = ci (lst H0) := rfl
  simp only [jobberref1_Sha, e0, cond_true, List.nil_append, e1, e2, p1, Option.bind_some, ev, p2, hk, hh, p3, p4]
  rfl
/-! ### bytes that come in -/
theorem bytes_of {l : List Int} (h : ∀ x ∈ l, 0 ≤ x ∧ x ≤ 255) : ∃ bs : List Nat, l = ci bs ∧ ∀ x ∈ bs, x < 256 := by
  induction l with
  | nil => exact ⟨[], rfl, by simp⟩
  | cons a l ih =>
    obtain ⟨bs, h1, h2⟩ := ih fun x hx => h x (List.mem_cons_of_mem _ hx)
    have ha := h a (List.mem_cons_self ..)
    refine ⟨a.toNat :: bs, ?_, fun x hx => ?_⟩
    · rw [h1, ci, ci, List.map_cons, Int.toNat_of_nonneg ha.1]
    · rcases List.mem_cons.1 hx with rfl | hx
      · omega
      · exact h2 x hx
theorem rng8 {x : Int} (h : Rng (.int .u8) x) : 0 ≤ x ∧ x ≤ 255 := h
theorem rng_bytes {l : List Int} (h : Rng (.deep (.int .u8)) l) : ∃ bs : List Nat, l = ci bs ∧ ∀ x ∈ bs, x < 256 := bytes_of fun x hx => rng8 (h.2 x hx)
theorem zip_all : ∀ a b : List Int, a.length = b.length → ((a.zip b).all fun p => teq (.int .u8) p.1 p.2) = odec (a = b)
  | [], [], _ => (ot rfl).symm
  | [], _ :: _, h => by simp at h
  | _ :: _, [], h => by simp at h
  | x :: a, y :: b, h => by
    have ih := zip_all a b (by simpa using h)
    simp only [List.zip_cons_cons, List.all_cons, ih]
    show (odec (x = y) && odec (a = b)) = _
    by_cases e : x = y
    · by_cases e2 : a = b
      · rw [ot e, ot e2, ot (by rw [e, e2])]; rfl
      · rw [of_ e2, of_ (fun h => e2 (List.cons.inj h).2), Bool.and_false]
    · rw [of_ e, of_ (fun h => e (List.cons.inj h).1), Bool.false_and]
theorem zip_self (a : List Int) : ((a.zip a).all fun p => teq (.int .u8) p.1 p.2) = true := by rw [zip_all a a rfl, ot rfl]
theorem rep_ci (n : Nat) : List.replicate n (0 : Int) = ci (List.replicate n 0) := by simp [ci]
theorem t320 : (((32 : Nat) : Int) - (0 : Int)).toNat = 32 := rfl
theorem b032 : odec (0 ≤ (0 : Int) ∧ (0 : Int) ≤ ((32 : Nat) : Int) ∧ ((32 : Nat) : Int) ≤ ((32 : Nat) : Int)) = true := ot (by omega)
theorem cut32 {x : List Nat} (h : x.length = 32) : ((ci x).drop 0).take 32 = ci x := by rw [List.drop_zero, ci_take, List.take_of_length_le (by omega)]
/-! ### the chain, plainly -/
def linkN (p b : List Nat) : List Nat := shaN (p ++ (be4 b.length ++ b))
def linksF : List Nat → List (List Nat) → List (List Nat)
  | _, [] => []
  | p, b :: l => linkN p b :: linksF (linkN p b) l
def z32 : List Nat := List.replicate 32 0
def links (l : List (List Nat)) : List (List Nat) := linksF z32 l
def cc (l : List (List Nat)) : List (List Int) := l.map ci
theorem cc_len (l : List (List Nat)) : (cc l).length = l.length := by simp [cc]
theorem cc_get {l : List (List Nat)} {i : Nat} (h : i < l.length) : (cc l)[i]? = some (ci (l.getD i [])) := by simp [cc, List.getD_eq_getElem?_getD, List.getElem?_eq_getElem h]
theorem cc_app (a b : List (List Nat)) : cc (a ++ b) = cc a ++ cc b := by simp [cc]
theorem cc_take (a : List (List Nat)) (n : Nat) : (cc a).take n = cc (a.take n) := by simp [cc, List.map_take]
theorem cc_set (a : List (List Nat)) (n : Nat) (x : List Nat) : (cc a).set n (ci x) = cc (a.set n x) := by simp [cc, List.map_set]
theorem cc_inj {a b : List (List Nat)} (h : cc a = cc b) : a = b := by
  have key : ∀ a b : List (List Nat), cc a = cc b → a = b := by
    intro a
    induction a with
    | nil => intro b h; cases b with | nil => rfl | cons y b => simp [cc] at h
    | cons x a ih =>
      intro b h
      cases b with
      | nil => simp [cc] at h
      | cons y b =>
        simp only [cc, List.map_cons, List.cons.injEq] at h
        rw [ih b h.2, ci_inj h.1]
  exact key a b h
theorem linksF_len : ∀ (l : List (List Nat)) (p : List Nat), (linksF p l).length = l.length
  | [], _ => rfl
  | b :: l, p => by simp [linksF, linksF_len l]
theorem links_len (l : List (List Nat)) : (links l).length = l.length := linksF_len l _
theorem linksF_mem : ∀ (l : List (List Nat)) (p : List Nat), ∀ x ∈ linksF p l, x.length = 32 ∧ ∀ y ∈ x, y < 256
  | [], _, x, h => by simp [linksF] at h
  | b :: l, p, x, h => by
    simp only [linksF, List.mem_cons] at h
    rcases h with rfl | h
    · exact ⟨sha_len _, sha_lt _⟩
    · exact linksF_mem l _ x h
/-- the link ahead of a place -/
def ahead (x : List (List Nat)) (i : Nat) : List Nat := if i = 0 then z32 else x.getD (i - 1) []
theorem linksF_at : ∀ (l : List (List Nat)) (p : List Nat) (i : Nat), i < l.length → (linksF p l).getD i [] = linkN (if i = 0 then p else (linksF p l).getD (i - 1) []) (l.getD i [])
  | [], _, i, h => by simp at h
  | b :: l, p, 0, h => rfl
  | b :: l, p, i + 1, h => by
    have := linksF_at l (linkN p b) i (by simpa using h)
    simp only [linksF, List.getD_cons_succ, this, Nat.succ_ne_zero, if_false, Nat.add_sub_cancel]
    cases i with
    | zero => rfl
    | succ i => rfl
theorem links_at {l : List (List Nat)} {i : Nat} (h : i < l.length) : (links l).getD i [] = linkN (ahead (links l) i) (l.getD i []) := linksF_at l z32 i h
theorem linksF_take : ∀ (l : List (List Nat)) (p : List Nat) (n : Nat), linksF p (l.take n) = (linksF p l).take n
  | [], _, n => by simp [linksF]
  | b :: l, p, 0 => by simp [linksF]
  | b :: l, p, n + 1 => by simp only [List.take_succ_cons, linksF, linksF_take l _ n]
theorem links_take (l : List (List Nat)) (n : Nat) : links (l.take n) = (links l).take n := linksF_take l _ n
theorem z32_ok : z32.length = 32 ∧ ∀ y ∈ z32, y < 256 := ⟨rfl, fun y hy => by rw [z32, List.mem_replicate] at hy; omega⟩
theorem ahead_ok (l : List (List Nat)) (i : Nat) (h : i ≤ l.length) : (ahead (links l) i).length = 32 ∧ ∀ y ∈ ahead (links l) i, y < 256 := by
  unfold ahead
  split
  · exact z32_ok
  · have hi : i - 1 < (links l).length := by rw [links_len]; omega
    rw [List.getD_eq_getElem?_getD, List.getElem?_eq_getElem hi]
    exact linksF_mem l z32 _ (List.getElem_mem hi)
/-- the first place, or -1 -/
def first (P : Nat → Bool) : Nat → Nat → Int
  | 0, _ => -1
  | k + 1, i => if P i then (i : Int) else first P k (i + 1)
theorem first_spec (P : Nat → Bool) : ∀ k i, (first P k i = -1 ∧ ∀ j, i ≤ j → j < i + k → P j = false) ∨ ∃ j : Nat, first P k i = (j : Int) ∧ i ≤ j ∧ j < i + k ∧ P j = true ∧ ∀ q, i ≤ q → q < j → P q = false
  | 0, i => .inl ⟨rfl, fun j h1 h2 => by omega⟩
  | k + 1, i => by
    by_cases h : P i = true
    · exact .inr ⟨i, by simp [first, h], Nat.le_refl _, by omega, h, fun q h1 h2 => by omega⟩
    · have h' : P i = false := by simpa using h
      have e : first P (k + 1) i = first P k (i + 1) := by simp [first, h']
      rw [e]
      rcases first_spec P k (i + 1) with ⟨h1, h2⟩ | ⟨j, h1, h2, h3, h4, h5⟩
      · exact .inl ⟨h1, fun j hj1 hj2 => by
          by_cases e : j = i
          · subst e; exact h'
          · exact h2 j (by omega) (by omega)⟩
      · exact .inr ⟨j, h1, by omega, by omega, h4, fun q hq1 hq2 => by
          by_cases e : q = i
          · subst e; exact h'
          · exact h5 q (by omega) hq2⟩
theorem first_ge (P : Nat → Bool) (k i : Nat) : first P k i = -1 ∨ 0 ≤ first P k i := by
  rcases first_spec P k i with ⟨h, _⟩ | ⟨j, h, _⟩
  · exact .inl h
  · exact .inr (by omega)
theorem first_at {P : Nat → Bool} {k i j : Nat} (h1 : i ≤ j) (h2 : j < i + k) (h3 : P j = true) (h4 : ∀ q, i ≤ q → q < j → P q = false) : first P k i = (j : Int) := by
  rcases first_spec P k i with ⟨_, h⟩ | ⟨q, h, g1, g2, g3, g4⟩
  · rw [h j h1 h2] at h3; cases h3
  · have : q = j := by
      rcases Nat.lt_trichotomy q j with e | e | e
      · rw [h4 q g1 e] at g3; cases g3
      · exact e
      · rw [g4 j h1 e] at h3; cases h3
    rw [h, this]
theorem first_no {P : Nat → Bool} {k i : Nat} (h : ∀ j, i ≤ j → j < i + k → P j = false) : first P k i = -1 := by
  rcases first_spec P k i with ⟨h1, _⟩ | ⟨q, _, g1, g2, g3, _⟩
  · exact h1
  · rw [h q g1 g2] at g3; cases g3
noncomputable def chkP (own X : List (List Nat)) (i : Nat) : Bool := odec (own.length ≤ i ∨ X.length ≤ i ∨ own.getD i [] ≠ X.getD i [])
noncomputable def chkN (own X : List (List Nat)) : Int := first (chkP own X) (max own.length X.length) 0
noncomputable def clashP (a b : List (List Nat)) (i : Nat) : Bool := odec ((links a).getD i [] = (links b).getD i [] ∧ (ahead (links a) i ≠ ahead (links b) i ∨ a.getD i [] ≠ b.getD i []))
noncomputable def clashN (a b : List (List Nat)) : Int := first (clashP a b) (min a.length b.length) 0
/-! ### the program's -/
theorem number_loop (v : Nat) (m : List Nat) (hm : m.length ≤ 1000000) : loopFix wire_number_l3 (((v : Int), (), 3, ()), (ci m, ())) = some (((), ()), (ci (m ++ be4 v), ())) := by
  have key := loop_ind (b := wire_number_l3) (fun x => ∃ j : Nat, x = (((v : Int), (), 3 - (j : Int), ()), (ci (m ++ (be4 v).take j), ())) ∧ j ≤ 4) (fun r => r = (((), ()), (ci (m ++ be4 v), ()))) (fun x => (x.1.2.2.1 + 1).toNat) (by
    rintro x ⟨j, rfl, hj⟩
    by_cases h : j < 4
    · right
      have e0 : (ci (m ++ (be4 v).take j)).length = m.length + j := by rw [ci_len, List.length_append, List.length_take, show (be4 v).length = 4 from rfl]; omega
      have e2 : wr .u64 (wr .i64 (8 * (3 - (j : Int)))) = ((8 * (3 - j) : Nat) : Int) := by rw [wr64 (by omega) (by omega), wr_eq, IntKind.wrap_u64]; omega
      have e3 : shr .u64 (v : Int) ((8 * (3 - j) : Nat) : Int) = ((v >>> (8 * (3 - j)) : Nat) : Int) := shr_nat .u64 v _ (by show 8 * (3 - j) ≤ 64; omega)
      have e4 : wr .i64 (3 - (j : Int) - 1) = 3 - ((j + 1 : Nat) : Int) := by rw [wr64 (by omega) (by omega)]; omega
      have e5 : (be4 v)[j]? = some ((v >>> (8 * (3 - j))) % 256) := by
        have : j = 0 ∨ j = 1 ∨ j = 2 ∨ j = 3 := by omega
        rcases this with rfl | rfl | rfl | rfl <;> rfl
      have e6 : ci (m ++ (be4 v).take (j + 1)) = ci (m ++ (be4 v).take j) ++ [((((v >>> (8 * (3 - j))) % 256 : Nat)) : Int)] := by
        rw [List.take_add_one, e5, ← List.append_assoc, ci_app]; rfl
      have e7 : odec (((m.length + j + ([((((v >>> (8 * (3 - j))) % 256 : Nat)) : Int)] : List Int).length : Nat) : Int) * ((1 : Nat) : Int) ≤ (room : Nat)) = true := inRoom (by simp only [List.length_cons, List.length_nil]; omega)
      refine ⟨(((v : Int), (), 3 - ((j + 1 : Nat) : Int), ()), (ci (m ++ (be4 v).take (j + 1)), ())), ?_, ⟨j + 1, rfl, h⟩, by simp only; omega⟩
      rw [e6]
      simp only [wire_number_l3, ot (show 3 - (j : Int) ≥ 0 by omega), cond_true, e2, of_ (show ¬ ((8 * (3 - j) : Nat) : Int) < 0 by omega), cond_false, e3, wr8n, e0, e7, e4]
    · left
      have : j = 4 := by omega
      subst this
      refine ⟨_, ?_, rfl⟩
      simp only [wire_number_l3, of_ (show ¬ 3 - ((4 : Nat) : Int) ≥ 0 by omega), cond_false, show (be4 v).take 4 = be4 v from rfl])
  obtain ⟨r, hr, rfl⟩ := key (((v : Int), (), 3, ()), (ci m, ())) ⟨0, by simp, by omega⟩
  exact hr
theorem u32_ok (m : List Nat) (v : Nat) (hm : m.length ≤ 1000000) (hv : v < M32) : wire_U32 ((ci m, (v : Int), ()), ()) = some (((), ()), (ci (m ++ be4 v), ())) := by
  have e1 : wr .u64 (v : Int) = (v : Int) := by rw [wr_eq, IntKind.wrap_u64]; simp only [M32] at hv; omega
  have e2 : wr .i64 (4 - 1) = 3 := wr64 (by omega) (by omega)
  simp only [wire_U32, wire_number, e1, clone_ok (ci m) (by rw [ci_len]; omega), Option.bind_some, e2, number_loop v m hm]
theorem link_ok (p b : List Nat) (hp : p.length = 32) (xp : ∀ y ∈ p, y < 256) (hb : b.length ≤ 100000) (xb : ∀ y ∈ b, y < 256) : chain_Link ((ci p, ci b, ()), ()) = some ((ci (linkN p b), ()), ()) := by
  have e1 : wr .u32 ((ci b).length : Int) = ((b.length : Nat) : Int) := by rw [ci_len]; exact wr32_id (by simp only [M32]; omega)
  have g1 := u32_ok p b.length (by omega) (by simp only [M32]; omega)
  have g2 := concat_some (ci (p ++ be4 b.length)) (ci b) (by rw [ci_len, List.length_append]; omega) (by rw [ci_len, ci_len, List.length_append, show (be4 b.length).length = 4 from rfl]; omega)
  have g3 := shaSum_ok ((p ++ be4 b.length) ++ b) (fun x hx => by
    rcases List.mem_append.1 hx with hx | hx
    · exact (List.mem_append.1 hx).elim (xp x) (be4_lt _ x)
    · exact xb x hx) (by simp only [List.length_append, show (be4 b.length).length = 4 from rfl]; omega)
  rw [ci_app] at g3
  simp only [chain_Link, b032, cond_true, t320, cut32 hp, e1, g1, Option.bind_some, g2, List.take_length, g3]
  rw [List.append_assoc]; rfl
def Recs (l : List (List Nat)) : Prop := l.length ≤ 1000 ∧ ∀ b ∈ l, b.length ≤ 100000 ∧ ∀ y ∈ b, y < 256
theorem Recs.at_ {l : List (List Nat)} (h : Recs l) (i : Nat) : (l.getD i []).length ≤ 100000 ∧ ∀ y ∈ l.getD i [], y < 256 := by
  rw [List.getD_eq_getElem?_getD]
  cases e : l[i]? with
  | none => simp
  | some b => exact h.2 b (List.mem_of_getElem? e)
theorem links_ok (l : List (List Nat)) (hl : Recs l) : chain_Links ((cc l, ()), ()) = some ((cc (links l), ()), ()) := by
  have key := loop_ind (b := chain_Links_l4) (fun d => ∃ i : Nat, d = (((), (), cc l, ((cc l).length : Int), (i : Int), ()), (cc ((links l).take i), ci (ahead (links l) i), ())) ∧ i ≤ l.length) (fun r => r = ((cc (links l), ()), (ci (ahead (links l) l.length), ()))) (fun d => l.length - d.1.2.2.2.2.1.toNat) (by
    rintro d ⟨i, rfl, hi⟩
    have hln := links_len l
    by_cases h : i < l.length
    · right
      have e1 : wr .i64 ((i : Int) + 1) = ((i + 1 : Nat) : Int) := by have := hl.1; rw [wr64 (by omega) (by omega)]; omega
      have ha := ahead_ok l i hi
      have hr := hl.at_ i
      have g1 := link_ok (ahead (links l) i) (l.getD i []) ha.1 ha.2 hr.1 hr.2
      rw [← links_at h] at g1
      have e2 : odec ((((cc ((links l).take i)).length + ([ci ((links l).getD i [])] : List (List Int)).length : Nat) : Int) * ((32 : Nat) : Int) ≤ (room : Nat)) = true := ot (by have := hl.1; rw [roomI, cc_len, List.length_take]; simp only [List.length_cons, List.length_nil]; omega)
      have e3 : cc ((links l).take (i + 1)) = cc ((links l).take i) ++ [ci ((links l).getD i [])] := by
        rw [List.take_add_one, cc_app, List.getD_eq_getElem?_getD, List.getElem?_eq_getElem (show i < (links l).length by omega)]; rfl
      have e4 : ahead (links l) (i + 1) = (links l).getD i [] := by simp [ahead]
      refine ⟨(((), (), cc l, ((cc l).length : Int), ((i + 1 : Nat) : Int), ()), (cc ((links l).take (i + 1)), ci (ahead (links l) (i + 1)), ())), ?_, ⟨i + 1, rfl, h⟩, by simp only; omega⟩
      rw [e3, e4]
      simp only [chain_Links_l4, ot (show (i : Int) < ((cc l).length : Int) by rw [cc_len]; omega), cond_true, ot (show (0 : Int) ≤ (i : Int) by omega), Int.toNat_natCast, cc_get h, Option.bind_some, g1, e2, e1]
    · left
      have : i = l.length := by omega
      subst this
      refine ⟨_, by simp only [chain_Links_l4, of_ (show ¬ ((l.length : Nat) : Int) < ((cc l).length : Int) by rw [cc_len]; omega), cond_false]; rfl, ?_⟩
      rw [List.take_of_length_le (by omega)])
  obtain ⟨r, hr, rfl⟩ := key (((), (), cc l, ((cc l).length : Int), 0, ()), ([], List.replicate 32 (0 : Int), ())) ⟨0, by simp [cc, ahead, z32, ci], by omega⟩
  simp only [chain_Links, hr, Option.bind_some]
theorem zip_ci {a b : List Nat} (ha : a.length = 32) (hb : b.length = 32) : (((ci a).zip (ci b)).all fun p => teq (.int .u8) p.1 p.2) = odec (a = b) := by
  rw [zip_all _ _ (by rw [ci_len, ci_len, ha, hb])]
  by_cases h : a = b
  · rw [ot h, ot (by rw [h])]
  · rw [of_ h, of_ (fun e => h (ci_inj e))]
def outR (r : Int) : ((Int × Unit) × Unit) ⊕ (Unit × Unit) := if r = -1 then .inr ((), ()) else .inl ((r, ()), ())
theorem outR_nat (i : Nat) : outR (i : Int) = .inl (((i : Int), ()), ()) := by rw [outR, if_neg (by omega)]
def All32 (l : List (List Nat)) : Prop := l.length ≤ 1000 ∧ ∀ x ∈ l, x.length = 32
theorem All32.at_ {l : List (List Nat)} (h : All32 l) {i : Nat} (hi : i < l.length) : (l.getD i []).length = 32 := by
  rw [List.getD_eq_getElem?_getD, List.getElem?_eq_getElem hi]; exact h.2 _ (List.getElem_mem hi)
theorem links_all {l : List (List Nat)} (h : Recs l) : All32 (links l) := ⟨by rw [links_len]; exact h.1, fun x hx => (linksF_mem l z32 x hx).1⟩
theorem chk_loop (own X : List (List Nat)) (ho : All32 own) (hX : All32 X) (m : Nat) (hm : m ≤ 2000) : ∀ k i, i + k = m → loopFix chain_Check_l3 ((cc X, cc own, (m : Int), (i : Int), ()), ()) = some (outR (first (chkP own X) k i))
  | 0, i, h => by
    rw [loopFix_eq]
    simp only [chain_Check_l3, of_ (show ¬ (i : Int) < (m : Int) by omega), cond_false]
    rfl
  | k + 1, i, h => by
    have ih := chk_loop own X ho hX m hm k (i + 1) (by omega)
    have e1 : wr .i64 ((i : Int) + 1) = ((i + 1 : Nat) : Int) := by rw [wr64 (by omega) (by omega)]; omega
    rw [loopFix_eq, first]
    by_cases h1 : own.length ≤ i
    · have hP : chkP own X i = true := ot (.inl h1)
      rw [if_pos hP, outR_nat]
      simp only [chain_Check_l3, ot (show (i : Int) < (m : Int) by omega), cond_true, ot (show (i : Int) ≥ ((cc own).length : Int) by rw [cc_len]; omega)]
    · by_cases h2 : X.length ≤ i
      · have hP : chkP own X i = true := ot (.inr (.inl h2))
        rw [if_pos hP, outR_nat]
        simp only [chain_Check_l3, ot (show (i : Int) < (m : Int) by omega), cond_true, of_ (show ¬ (i : Int) ≥ ((cc own).length : Int) by rw [cc_len]; omega), cond_false, ot (show (i : Int) ≥ ((cc X).length : Int) by rw [cc_len]; omega)]
      · have hz := zip_ci (ho.at_ (show i < own.length by omega)) (hX.at_ (show i < X.length by omega))
        by_cases h3 : own.getD i [] = X.getD i []
        · rw [ot h3] at hz
          rw [if_neg (by rw [show chkP own X i = false from of_ (fun h => h.elim h1 fun h => h.elim h2 fun h => h h3)]; simp)]
          simp only [chain_Check_l3, ot (show (i : Int) < (m : Int) by omega), cond_true, of_ (show ¬ (i : Int) ≥ ((cc own).length : Int) by rw [cc_len]; omega), cond_false, of_ (show ¬ (i : Int) ≥ ((cc X).length : Int) by rw [cc_len]; omega), ot (show (0 : Int) ≤ (i : Int) by omega), Int.toNat_natCast, cc_get (show i < own.length by omega), cc_get (show i < X.length by omega), Option.bind_some, hz, Bool.not_true, e1]
          exact ih
        · rw [of_ h3] at hz
          have hP : chkP own X i = true := ot (.inr (.inr h3))
          rw [if_pos hP, outR_nat]
          simp only [chain_Check_l3, ot (show (i : Int) < (m : Int) by omega), cond_true, of_ (show ¬ (i : Int) ≥ ((cc own).length : Int) by rw [cc_len]; omega), cond_false, of_ (show ¬ (i : Int) ≥ ((cc X).length : Int) by rw [cc_len]; omega), ot (show (0 : Int) ≤ (i : Int) by omega), Int.toNat_natCast, cc_get (show i < own.length by omega), cc_get (show i < X.length by omega), Option.bind_some, hz, Bool.not_false]
theorem imax_nat (a b : Nat) : imax (a : Int) (b : Int) = ((max a b : Nat) : Int) := by
  rw [imax]
  by_cases h : (b : Int) > (a : Int)
  · rw [ot h]; simp only [cond_true]; omega
  · rw [of_ h]; simp only [cond_false]; omega
theorem imin_nat (a b : Nat) : imin (a : Int) (b : Int) = ((min a b : Nat) : Int) := by
  rw [imin]
  by_cases h : (b : Int) < (a : Int)
  · rw [ot h]; simp only [cond_true]; omega
  · rw [of_ h]; simp only [cond_false]; omega
theorem outR_back (r : Int) (h : r = -1 ∨ 0 ≤ r) : (match outR r with | .inl r5 => some (((r5.1.1, ()), ()) : (Int × Unit) × Unit) | .inr _ => some (((-1, ()), ()))) = some ((r, ()), ()) := by
  unfold outR
  by_cases e : r = -1
  · rw [if_pos e, e]
  · rw [if_neg e]
theorem check_ok (R X : List (List Nat)) (hR : Recs R) (hX : All32 X) : chain_Check ((cc R, cc X, ()), ()) = some ((chkN (links R) X, ()), ()) := by
  have h1 := links_ok R hR
  have hl := links_all hR
  have h2 := chk_loop (links R) X hl hX (max (links R).length X.length) (by have := hl.1; have := hX.1; omega) (max (links R).length X.length) 0 (by omega)
  have h2' : loopFix chain_Check_l3 ((cc X, cc (links R), ((max (links R).length X.length : Nat) : Int), 0, ()), ()) = _ := h2
  simp only [chain_Check, h1, Option.bind_some, cc_len, imax_nat, h2']
  exact outR_back _ (first_ge _ _ _)
theorem bytes_eq (a b : List Nat) (ha : ∀ x ∈ a, x < 256) (hb : ∀ x ∈ b, x < 256) : strEq (bytesOfInts (ci a)) (bytesOfInts (ci b)) = odec (a = b) := by
  have inj : ∀ a b : List Nat, (∀ x ∈ a, x < 256) → (∀ x ∈ b, x < 256) → (bytesOfInts (ci a)).toList = (bytesOfInts (ci b)).toList → a = b := by
    intro a b ha hb h
    rw [ByteArray.toList_eq, ByteArray.toList_eq] at h
    simp only [bytesOfInts, ci, List.map_map] at h
    have key : ∀ a b : List Nat, (∀ x ∈ a, x < 256) → (∀ x ∈ b, x < 256) → a.map ((fun n : Int => n.toNat.toUInt8) ∘ fun n : Nat => (n : Int)) = b.map ((fun n : Int => n.toNat.toUInt8) ∘ fun n : Nat => (n : Int)) → a = b := by
      intro a
      induction a with
      | nil => intro b _ _ h; cases b with | nil => rfl | cons y b => simp at h
      | cons x a ih =>
        intro b ha hb h
        cases b with
        | nil => simp at h
        | cons y b =>
          simp only [List.map_cons, List.cons.injEq, Function.comp, Int.toNat_natCast] at h
          have hx := ha x (List.mem_cons_self ..)
          have hy := hb y (List.mem_cons_self ..)
          have e : x = y := by
            have := congrArg UInt8.toNat h.1
            simp only [Nat.toUInt8, UInt8.toNat_ofNat'] at this
            omega
          rw [e, ih b (fun z hz => ha z (List.mem_cons_of_mem _ hz)) (fun z hz => hb z (List.mem_cons_of_mem _ hz)) h.2]
    exact key a b ha hb h
  unfold strEq
  by_cases h : a = b
  · rw [h, ot rfl]; simp
  · rw [of_ h]
    simp only [beq_eq_false_iff_ne, ne_eq]
    exact fun e => h (inj a b ha hb e)
theorem ahead_prog (x : List (List Nat)) (i : Nat) (hx : x.length ≤ 1000) (hi : i ≤ x.length) : chain_ahead ((cc x, (i : Int), ()), ()) = some ((ci (ahead x i), ()), ()) := by
  by_cases h : i = 0
  · subst h
    simp only [chain_ahead, ot (show ((0 : Nat) : Int) = 0 from rfl), cond_true, ahead, if_true]
    rfl
  · have e1 : wr .i64 ((i : Int) - 1) = ((i - 1 : Nat) : Int) := by rw [wr64 (by omega) (by omega)]; omega
    simp only [chain_ahead, of_ (show ¬ (i : Int) = 0 by omega), cond_false, e1, ot (show (0 : Int) ≤ ((i - 1 : Nat) : Int) by omega), cond_true, Int.toNat_natCast, cc_get (show i - 1 < x.length by omega), Option.bind_some, ahead, if_neg h]
theorem clash_loop (a b : List (List Nat)) (ha : Recs a) (hb : Recs b) : ∀ k i, i + k = min a.length b.length → loopFix chain_Clash_l3 ((cc a, cc b, cc (links a), cc (links b), ((min a.length b.length : Nat) : Int), (i : Int), ()), ()) = some (outR (first (clashP a b) k i))
  | 0, i, h => by
    rw [loopFix_eq]
    simp only [chain_Clash_l3, of_ (show ¬ (i : Int) < ((min a.length b.length : Nat) : Int) by omega), cond_false]
    rfl
  | k + 1, i, h => by
    have ih := clash_loop a b ha hb k (i + 1) (by omega)
    have l1 := ha.1
    have la := links_len a
    have lb := links_len b
    have e1 : wr .i64 ((i : Int) + 1) = ((i + 1 : Nat) : Int) := by rw [wr64 (by omega) (by omega)]; omega
    have hz := zip_ci ((links_all ha).at_ (show i < (links a).length by omega)) ((links_all hb).at_ (show i < (links b).length by omega))
    have aa := ahead_ok a i (by omega)
    have ab := ahead_ok b i (by omega)
    have hz2 := zip_ci aa.1 ab.1
    have pa := ahead_prog (links a) i (by omega) (by omega)
    have pb := ahead_prog (links b) i (by have := hb.1; omega) (by omega)
    have hq := bytes_eq (a.getD i []) (b.getD i []) (ha.at_ i).2 (hb.at_ i).2
    rw [loopFix_eq, first]
    by_cases h1 : (links a).getD i [] = (links b).getD i []
    · rw [ot h1] at hz
      by_cases h2 : ahead (links a) i = ahead (links b) i
      · rw [ot h2] at hz2
        by_cases h3 : a.getD i [] = b.getD i []
        · rw [ot h3] at hq
          have hP : clashP a b i = false := of_ (fun h => h.2.elim (fun g => g h2) (fun g => g h3))
          rw [if_neg (by rw [hP]; simp)]
          simp only [chain_Clash_l3, ot (show (i : Int) < ((min a.length b.length : Nat) : Int) by omega), cond_true, ot (show (0 : Int) ≤ (i : Int) by omega), Int.toNat_natCast, cc_get (show i < (links a).length by omega), cc_get (show i < (links b).length by omega), Option.bind_some, hz, pa, pb, hz2, Bool.not_true, cond_false, cc_get (show i < a.length by omega), cc_get (show i < b.length by omega), bytes_Equal, hq, e1]
          exact ih
        · rw [of_ h3] at hq
          have hP : clashP a b i = true := ot ⟨h1, .inr h3⟩
          rw [if_pos hP, outR_nat]
          simp only [chain_Clash_l3, ot (show (i : Int) < ((min a.length b.length : Nat) : Int) by omega), cond_true, ot (show (0 : Int) ≤ (i : Int) by omega), Int.toNat_natCast, cc_get (show i < (links a).length by omega), cc_get (show i < (links b).length by omega), Option.bind_some, hz, pa, pb, hz2, Bool.not_true, cond_false, cc_get (show i < a.length by omega), cc_get (show i < b.length by omega), bytes_Equal, hq, Bool.not_false]
      · rw [of_ h2] at hz2
        have hP : clashP a b i = true := ot ⟨h1, .inl h2⟩
        rw [if_pos hP, outR_nat]
        simp only [chain_Clash_l3, ot (show (i : Int) < ((min a.length b.length : Nat) : Int) by omega), cond_true, ot (show (0 : Int) ≤ (i : Int) by omega), Int.toNat_natCast, cc_get (show i < (links a).length by omega), cc_get (show i < (links b).length by omega), Option.bind_some, hz, pa, pb, hz2, Bool.not_false]
    · rw [of_ h1] at hz
      have hP : clashP a b i = false := of_ (fun h => h1 h.1)
      rw [if_neg (by rw [hP]; simp)]
      simp only [chain_Clash_l3, ot (show (i : Int) < ((min a.length b.length : Nat) : Int) by omega), cond_true, ot (show (0 : Int) ≤ (i : Int) by omega), Int.toNat_natCast, cc_get (show i < (links a).length by omega), cc_get (show i < (links b).length by omega), Option.bind_some, hz, cond_false, e1]
      exact ih
theorem clash_ok (a b : List (List Nat)) (ha : Recs a) (hb : Recs b) : chain_Clash ((cc a, cc b, ()), ()) = some ((clashN a b, ()), ()) := by
  have h2 := clash_loop a b ha hb (min a.length b.length) 0 (by omega)
  have h2' : loopFix chain_Clash_l3 ((cc a, cc b, cc (links a), cc (links b), ((min a.length b.length : Nat) : Int), 0, ()), ()) = _ := h2
  simp only [chain_Clash, links_ok a ha, links_ok b hb, Option.bind_some, cc_len, imin_nat, links_len, h2']
  exact outR_back _ (first_ge _ _ _)
/-! ### the law's own words -/
theorem few_ok (l : List (List Nat)) (hl : ∀ b ∈ l, ∀ y ∈ b, y < 256) : ∃ R : List (List Nat), Recs R ∧ R.length ≤ 8 ∧ (∀ b ∈ R, b.length ≤ 40) ∧ jobberlaw4_few ((cc l, ()), ()) = some (((), ()), (cc R, ())) := by
  have key := loop_ind (b := jobberlaw4_few_l3) (fun d => ∃ (i : Nat) (R : List (List Nat)), d = ((cc l, (), (i : Int), ()), (cc R, ())) ∧ i ≤ 8 ∧ R.length ≤ i ∧ ∀ b ∈ R, b.length ≤ 40 ∧ ∀ y ∈ b, y < 256) (fun r => ∃ R : List (List Nat), r = (((), ()), (cc R, ())) ∧ R.length ≤ 8 ∧ ∀ b ∈ R, b.length ≤ 40 ∧ ∀ y ∈ b, y < 256) (fun d => 8 - d.1.2.2.1.toNat) (by
    rintro d ⟨i, R, rfl, hi, hR, hb⟩
    by_cases h1 : i < l.length
    · by_cases h2 : i < 8
      · right
        have el := cc_get h1
        have hx : ∀ y ∈ l.getD i [], y < 256 := by
          rw [List.getD_eq_getElem?_getD, List.getElem?_eq_getElem h1]; exact hl _ (List.getElem_mem h1)
        generalize l.getD i [] = x at el hx
        obtain ⟨i1, i2, i3⟩ := imin_take (ci x) 40 40 rfl
        have e0 : odec (0 ≤ (0 : Int) ∧ (0 : Int) ≤ (imin ((ci x).length : Int) 40) ∧ (imin ((ci x).length : Int) 40) ≤ ((ci x).length : Int)) = true := ot ⟨by omega, i2, i3⟩
        have hp : ∀ y ∈ x.take 40, y < 256 := fun y hy => hx y (List.mem_of_mem_take hy)
        have hpl : (x.take 40).length ≤ 40 := by rw [List.length_take]; omega
        rw [ci_take x 40] at i1
        generalize x.take 40 = p at i1 hp hpl
        have e1 : wr .i64 ((i : Int) + 1) = ((i + 1 : Nat) : Int) := by rw [wr64 (by omega) (by omega)]; omega
        have e2 : odec (((([] : List Int).length + (ci p).length : Nat) : Int) * ((1 : Nat) : Int) ≤ (room : Nat)) = true := inRoom (by rw [ci_len, List.length_nil]; omega)
        have e3 : odec ((((cc R).length + ([ci p] : List (List Int)).length : Nat) : Int) * ((24 : Nat) : Int) ≤ (room : Nat)) = true := ot (by rw [roomI, cc_len]; simp only [List.length_cons, List.length_nil]; omega)
        have e4 : cc R ++ [ci p] = cc (R ++ [p]) := by rw [cc_app]; rfl
        refine ⟨((cc l, (), ((i + 1 : Nat) : Int), ()), (cc (R ++ [p]), ())), ?_, ⟨i + 1, R ++ [p], rfl, by omega, by simp; omega, fun b hb' => ?_⟩, by simp only; omega⟩
        · simp only [jobberlaw4_few_l3, ot (show (i : Int) < ((cc l).length : Int) by rw [cc_len]; omega), ot (show (i : Int) < 8 by omega), ot (show (0 : Int) ≤ (i : Int) by omega), cond_true, Int.toNat_natCast, el, Option.bind_some, e0, i1, e2, List.nil_append, e3, e4, e1]
        · rcases List.mem_append.1 hb' with h | h
          · exact hb b h
          · rw [List.mem_singleton] at h; subst h; exact ⟨hpl, hp⟩
      · left
        exact ⟨_, by simp only [jobberlaw4_few_l3, ot (show (i : Int) < ((cc l).length : Int) by rw [cc_len]; omega), of_ (show ¬ (i : Int) < 8 by omega), cond_true, cond_false], R, rfl, by omega, hb⟩
    · left
      exact ⟨_, by simp only [jobberlaw4_few_l3, of_ (show ¬ (i : Int) < ((cc l).length : Int) by rw [cc_len]; omega), cond_false], R, rfl, by omega, hb⟩)
  obtain ⟨r, hr, R, rfl, h1, h2⟩ := key ((cc l, (), 0, ()), ([], ())) ⟨0, [], rfl, by omega, by simp, by simp⟩
  refine ⟨R, ⟨by omega, fun b hb => ⟨by have := (h2 b hb).1; omega, (h2 b hb).2⟩⟩, h1, fun b hb => (h2 b hb).1, ?_⟩
  simp only [jobberlaw4_few, hr, Option.bind_some]
theorem same4_ok (a b : List (List Nat)) (ha : Recs a) (hb : Recs b) : jobberlaw4_same ((cc a, cc b, ()), ()) = some ((odec (a = b), ()), ()) := by
  by_cases hl : a.length = b.length
  · have key := loop_ind (b := jobberlaw4_same_l4) (fun d => ∃ i : Nat, d = ((cc a, cc b, ((cc a).length : Int), (i : Int), ()), ()) ∧ i ≤ a.length ∧ a.take i = b.take i) (fun r => (r = .inr ((), ()) ∧ a = b) ∨ (r = .inl ((false, ()), ()) ∧ a ≠ b)) (fun d => a.length - d.1.2.2.2.1.toNat) (by
      rintro d ⟨i, rfl, hi, ht⟩
      by_cases h1 : i < a.length
      · have l1 := ha.1
        have e1 : wr .i64 ((i : Int) + 1) = ((i + 1 : Nat) : Int) := by rw [wr64 (by omega) (by omega)]; omega
        have hs := same_ok (ci (a.getD i [])) (ci (b.getD i [])) (by have := (ha.at_ i).1; rw [ci_len]; omega)
        by_cases he : a.getD i [] = b.getD i []
        · right
          rw [ot (by rw [he])] at hs
          refine ⟨((cc a, cc b, ((cc a).length : Int), ((i + 1 : Nat) : Int), ()), ()), ?_, ⟨i + 1, rfl, by omega, ?_⟩, by simp only; omega⟩
          · simp only [jobberlaw4_same_l4, ot (show (i : Int) < ((cc a).length : Int) by rw [cc_len]; omega), ot (show (0 : Int) ≤ (i : Int) by omega), cond_true, Int.toNat_natCast, cc_get h1, cc_get (show i < b.length by omega), Option.bind_some, hs, Bool.not_true, cond_false, e1]
          · rw [List.take_add_one, List.take_add_one, ht]
            rw [List.getD_eq_getElem?_getD, List.getD_eq_getElem?_getD, List.getElem?_eq_getElem h1, List.getElem?_eq_getElem (show i < b.length by omega)] at he
            rw [List.getElem?_eq_getElem h1, List.getElem?_eq_getElem (show i < b.length by omega)]
            simp only [Option.getD_some] at he
            rw [he]
        · left
          rw [of_ (fun e => he (ci_inj e))] at hs
          refine ⟨.inl ((false, ()), ()), ?_, .inr ⟨rfl, fun e => he (by subst e; rfl)⟩⟩
          simp only [jobberlaw4_same_l4, ot (show (i : Int) < ((cc a).length : Int) by rw [cc_len]; omega), ot (show (0 : Int) ≤ (i : Int) by omega), cond_true, Int.toNat_natCast, cc_get h1, cc_get (show i < b.length by omega), Option.bind_some, hs, Bool.not_false]
      · left
        have e : i = a.length := by omega
        subst e
        rw [List.take_length, List.take_of_length_le (by omega)] at ht
        exact ⟨.inr ((), ()), by simp only [jobberlaw4_same_l4, of_ (show ¬ ((a.length : Nat) : Int) < ((cc a).length : Int) by rw [cc_len]; omega), cond_false], .inl ⟨rfl, ht⟩⟩)
    obtain ⟨r, hr, q⟩ := key ((cc a, cc b, ((cc a).length : Int), 0, ()), ()) ⟨0, rfl, by omega, rfl⟩
    have hl' : ((cc a).length : Int) = ((cc b).length : Int) := by rw [cc_len, cc_len, hl]
    simp only [jobberlaw4_same, ot hl', Bool.not_true, cond_false, hr, Option.bind_some]
    rcases q with ⟨rfl, q⟩ | ⟨rfl, q⟩
    · simp only [ot q]
    · simp only [of_ q]
  · have h1 : a ≠ b := fun e => hl (by rw [e])
    have hl' : ¬ ((cc a).length : Int) = ((cc b).length : Int) := by rw [cc_len, cc_len]; omega
    simp only [jobberlaw4_same, of_ hl', Bool.not_false, cond_true, of_ h1]
theorem clashes_loop (a b : List (List Nat)) (n : Nat) (ha : Recs a) (hb : Recs b) (h1 : n < a.length) (h2 : n < b.length) : loopFix jobberlaw4_clashes_l5 ((cc a, cc b, (n : Int), (), (), 0, ()), (List.replicate 32 (0 : Int), List.replicate 32 (0 : Int), ())) = some ((cc a, cc b, (n : Int), (), (), ()), (ci (ahead (links a) n), ci (ahead (links b) n), ())) := by
  have key := loop_ind (b := jobberlaw4_clashes_l5) (fun d => ∃ i : Nat, d = ((cc a, cc b, (n : Int), (), (), (i : Int), ()), (ci (ahead (links a) i), ci (ahead (links b) i), ())) ∧ i ≤ n) (fun r => r = ((cc a, cc b, (n : Int), (), (), ()), (ci (ahead (links a) n), ci (ahead (links b) n), ()))) (fun d => n - d.1.2.2.2.2.2.1.toNat) (by
    rintro d ⟨i, rfl, hi⟩
    by_cases h : i < n
    · right
      have l1 := ha.1
      have e1 : wr .i64 ((i : Int) + 1) = ((i + 1 : Nat) : Int) := by rw [wr64 (by omega) (by omega)]; omega
      have aa := ahead_ok a i (by omega)
      have ab := ahead_ok b i (by omega)
      have g1 := link_ok (ahead (links a) i) (a.getD i []) aa.1 aa.2 (ha.at_ i).1 (ha.at_ i).2
      have g2 := link_ok (ahead (links b) i) (b.getD i []) ab.1 ab.2 (hb.at_ i).1 (hb.at_ i).2
      rw [← links_at (show i < a.length by omega)] at g1
      rw [← links_at (show i < b.length by omega)] at g2
      have e4 : ∀ x : List (List Nat), ahead x (i + 1) = x.getD i [] := fun x => by simp [ahead]
      refine ⟨((cc a, cc b, (n : Int), (), (), ((i + 1 : Nat) : Int), ()), (ci (ahead (links a) (i + 1)), ci (ahead (links b) (i + 1)), ())), ?_, ⟨i + 1, rfl, h⟩, by simp only; omega⟩
      rw [e4, e4]
      simp only [jobberlaw4_clashes_l5, ot (show (i : Int) < (n : Int) by omega), cond_true, ot (show (0 : Int) ≤ (i : Int) by omega), Int.toNat_natCast, cc_get (show i < a.length by omega), cc_get (show i < b.length by omega), Option.bind_some, g1, g2, e1]
    · left
      have : i = n := by omega
      subst this
      exact ⟨_, by simp only [jobberlaw4_clashes_l5, of_ (show ¬ (i : Int) < (i : Int) by omega), cond_false], rfl⟩)
  obtain ⟨r, hr, rfl⟩ := key ((cc a, cc b, (n : Int), (), (), 0, ()), (ci (ahead (links a) 0), ci (ahead (links b) 0), ())) ⟨0, rfl, by omega⟩
  have hz : ∀ x : List (List Nat), ci (ahead x 0) = List.replicate 32 (0 : Int) := fun x => by simp [ahead, z32, ci]
  rw [hz, hz] at hr
  exact hr
/-- a clash that is told is shown -/
theorem clashes_ok (a b : List (List Nat)) (ha : Recs a) (hb : Recs b) (j : Nat) (h1 : j < a.length) (h2 : j < b.length) (hP : clashP a b j = true) : jobberlaw4_clashes ((cc a, cc b, (j : Int), ()), ()) = some ((true, ()), ()) := by
  obtain ⟨hx, hd⟩ := odec_iff.1 hP
  have hloop := clashes_loop a b j ha hb h1 h2
  have aa := ahead_ok a j (by omega)
  have ab := ahead_ok b j (by omega)
  have g1 := link_ok (ahead (links a) j) (a.getD j []) aa.1 aa.2 (ha.at_ j).1 (ha.at_ j).2
  have g2 := link_ok (ahead (links b) j) (b.getD j []) ab.1 ab.2 (hb.at_ j).1 (hb.at_ j).2
  rw [← links_at h1] at g1
  rw [← links_at h2, ← hx] at g2
  have hz := zip_ci aa.1 ab.1
  have base1 := of_ (show ¬ (j : Int) < 0 by omega)
  have base2 := of_ (show ¬ (j : Int) ≥ ((cc a).length : Int) by rw [cc_len]; omega)
  have base3 := of_ (show ¬ (j : Int) ≥ ((cc b).length : Int) by rw [cc_len]; omega)
  by_cases he : ahead (links a) j = ahead (links b) j
  · rw [ot he] at hz
    have hr : a.getD j [] ≠ b.getD j [] := hd.elim (fun g => absurd he g) id
    have hs := same_ok (ci (a.getD j [])) (ci (b.getD j [])) (by have := (ha.at_ j).1; rw [ci_len]; omega)
    rw [of_ (fun e => hr (ci_inj e))] at hs
    simp only [jobberlaw4_clashes, base1, base2, base3, cond_false, hloop, Option.bind_some, hz, Bool.not_true, ot (show (0 : Int) ≤ (j : Int) by omega), cond_true, Int.toNat_natCast, cc_get h1, cc_get h2, hs, Bool.not_false, g1, g2, zip_self]
  · rw [of_ he] at hz
    simp only [jobberlaw4_clashes, base1, base2, base3, cond_false, hloop, Option.bind_some, hz, Bool.not_false, ot (show (0 : Int) ≤ (j : Int) by omega), cond_true, Int.toNat_natCast, cc_get h1, cc_get h2, g1, g2, zip_self]
theorem sums_same (x : List (List Nat)) (hx : x.length ≤ 1000) : jobberbook_Same_api_Sum ((cc x, cc x, ()), ()) = some ((true, ()), ()) := by
  have key := loop_ind (b := jobberbook_Same_api_Sum_l4) (fun d => ∃ i : Nat, d = ((cc x, cc x, (i : Int), ()), ()) ∧ i ≤ x.length) (fun r => r = .inr ((), ())) (fun d => x.length - d.1.2.2.1.toNat) (by
    rintro d ⟨i, rfl, hi⟩
    by_cases h : i < x.length
    · right
      have e1 : wr .i64 ((i : Int) + 1) = ((i + 1 : Nat) : Int) := by rw [wr64 (by omega) (by omega)]; omega
      refine ⟨((cc x, cc x, ((i + 1 : Nat) : Int), ()), ()), ?_, ⟨i + 1, rfl, h⟩, by simp only; omega⟩
      simp only [jobberbook_Same_api_Sum_l4, ot (show (i : Int) < ((cc x).length : Int) by rw [cc_len]; omega), cond_true, ot (show (0 : Int) ≤ (i : Int) by omega), Int.toNat_natCast, cc_get h, Option.bind_some, zip_self, Bool.not_true, cond_false, e1]
    · left
      exact ⟨_, by simp only [jobberbook_Same_api_Sum_l4, of_ (show ¬ (i : Int) < ((cc x).length : Int) by rw [cc_len]; omega), cond_false], rfl⟩)
  obtain ⟨r, hr, rfl⟩ := key ((cc x, cc x, 0, ()), ()) ⟨0, rfl, by omega⟩
  simp only [jobberbook_Same_api_Sum, ot (show ((cc x).length : Int) = ((cc x).length : Int) from rfl), odT, Bool.not_true, cond_false, hr, Option.bind_some]
/-! ### the document's -/
theorem refLink_ok (p b : List Nat) (hp : p.length = 32) (xp : ∀ y ∈ p, y < 256) (hb : b.length ≤ 100000) (xb : ∀ y ∈ b, y < 256) : jobberref1_Link ((ci p, ci b, ()), ()) = some ((ci (linkN p b), ()), ()) := by
  have e1 : wr .u32 ((ci b).length : Int) = ((b.length : Nat) : Int) := by rw [ci_len]; exact wr32_id (by simp only [M32]; omega)
  have g1 := refU32 [] b.length (by simp)
  have g1' : jobberref1_U32 (([], (b.length : Int), ()), ()) = _ := g1
  rw [List.nil_append] at g1'
  have e2 : odec (((([] : List Int).length + (ci p).length : Nat) : Int) * ((1 : Nat) : Int) ≤ (room : Nat)) = true := inRoom (by rw [ci_len, List.length_nil]; omega)
  have e3 : odec ((((ci p).length + (ci (be4 b.length)).length : Nat) : Int) * ((1 : Nat) : Int) ≤ (room : Nat)) = true := inRoom (by rw [ci_len, ci_len, show (be4 b.length).length = 4 from rfl]; omega)
  have e4 : odec ((((ci p ++ ci (be4 b.length)).length + (ci b).length : Nat) : Int) * ((1 : Nat) : Int) ≤ (room : Nat)) = true := inRoom (by rw [List.length_append, ci_len, ci_len, ci_len, show (be4 b.length).length = 4 from rfl]; omega)
  have g3 := refSha_ok ((p ++ be4 b.length) ++ b) (fun x hx => by
    rcases List.mem_append.1 hx with hx | hx
    · exact (List.mem_append.1 hx).elim (xp x) (be4_lt _ x)
    · exact xb x hx) (by simp only [List.length_append, show (be4 b.length).length = 4 from rfl]; omega)
  rw [ci_app, ci_app] at g3
  simp only [jobberref1_Link, b032, cond_true, t320, cut32 hp, e2, List.nil_append, e1, g1', Option.bind_some, e3, e4, g3]
  rw [List.append_assoc]; rfl
theorem refLinks_ok (l : List (List Nat)) (hl : Recs l) : jobberref1_Links ((cc l, ()), ()) = some (((), ()), (cc (links l), ())) := by
  have key := loop_ind (b := jobberref1_Links_l4) (fun d => ∃ i : Nat, d = (((), (), cc l, ((cc l).length : Int), (i : Int), ()), (cc ((links l).take i), ci (ahead (links l) i), ())) ∧ i ≤ l.length) (fun r => r = (((), ()), (ci (ahead (links l) l.length), cc (links l), ()))) (fun d => l.length - d.1.2.2.2.2.1.toNat) (by
    rintro d ⟨i, rfl, hi⟩
    have hln := links_len l
    by_cases h : i < l.length
    · right
      have e1 : wr .i64 ((i : Int) + 1) = ((i + 1 : Nat) : Int) := by have := hl.1; rw [wr64 (by omega) (by omega)]; omega
      have ha := ahead_ok l i hi
      have hr := hl.at_ i
      have g1 := refLink_ok (ahead (links l) i) (l.getD i []) ha.1 ha.2 hr.1 hr.2
      rw [← links_at h] at g1
      have e2 : odec ((((cc ((links l).take i)).length + ([ci ((links l).getD i [])] : List (List Int)).length : Nat) : Int) * ((32 : Nat) : Int) ≤ (room : Nat)) = true := ot (by have := hl.1; rw [roomI, cc_len, List.length_take]; simp only [List.length_cons, List.length_nil]; omega)
      have e3 : cc ((links l).take (i + 1)) = cc ((links l).take i) ++ [ci ((links l).getD i [])] := by
        rw [List.take_add_one, cc_app, List.getD_eq_getElem?_getD, List.getElem?_eq_getElem (show i < (links l).length by omega)]; rfl
      have e4 : ahead (links l) (i + 1) = (links l).getD i [] := by simp [ahead]
      refine ⟨(((), (), cc l, ((cc l).length : Int), ((i + 1 : Nat) : Int), ()), (cc ((links l).take (i + 1)), ci (ahead (links l) (i + 1)), ())), ?_, ⟨i + 1, rfl, h⟩, by simp only; omega⟩
      rw [e3, e4]
      simp only [jobberref1_Links_l4, ot (show (i : Int) < ((cc l).length : Int) by rw [cc_len]; omega), cond_true, ot (show (0 : Int) ≤ (i : Int) by omega), Int.toNat_natCast, cc_get h, Option.bind_some, g1, e2, e1]
    · left
      have : i = l.length := by omega
      subst this
      refine ⟨_, by simp only [jobberref1_Links_l4, of_ (show ¬ ((l.length : Nat) : Int) < ((cc l).length : Int) by rw [cc_len]; omega), cond_false]; rfl, ?_⟩
      rw [List.take_of_length_le (by omega)])
  obtain ⟨r, hr, rfl⟩ := key (((), (), cc l, ((cc l).length : Int), 0, ()), ([], List.replicate 32 (0 : Int), ())) ⟨0, by simp [cc, ahead, z32, ci], by omega⟩
  simp only [jobberref1_Links, hr, Option.bind_some]
theorem refClash_loop (a b : List (List Nat)) (ha : Recs a) (hb : Recs b) : ∀ k i, i + k = min a.length b.length → loopFix jobberref1_Clash_l3 ((cc a, cc b, cc (links a), cc (links b), (i : Int), ()), ()) = some (outR (first (clashP a b) k i))
  | 0, i, h => by
    have la := links_len a
    have lb := links_len b
    rw [loopFix_eq]
    by_cases h1 : i < a.length
    · simp only [jobberref1_Clash_l3, ot (show (i : Int) < ((cc (links a)).length : Int) by rw [cc_len]; omega), cond_true, of_ (show ¬ (i : Int) < ((cc (links b)).length : Int) by rw [cc_len]; omega), cond_false]
      rfl
    · simp only [jobberref1_Clash_l3, of_ (show ¬ (i : Int) < ((cc (links a)).length : Int) by rw [cc_len]; omega), cond_false]
      rfl
  | k + 1, i, h => by
    have ih := refClash_loop a b ha hb k (i + 1) (by omega)
    have l1 := ha.1
    have la := links_len a
    have lb := links_len b
    have e1 : wr .i64 ((i : Int) + 1) = ((i + 1 : Nat) : Int) := by rw [wr64 (by omega) (by omega)]; omega
    have hz := zip_ci ((links_all ha).at_ (show i < (links a).length by omega)) ((links_all hb).at_ (show i < (links b).length by omega))
    have aa := ahead_ok a i (by omega)
    have ab := ahead_ok b i (by omega)
    have hz2 := zip_ci aa.1 ab.1
    have hq := bytes_eq (a.getD i []) (b.getD i []) (ha.at_ i).2 (hb.at_ i).2
    have c1 := ot (show (i : Int) < ((cc (links a)).length : Int) by rw [cc_len]; omega)
    have c2 := ot (show (i : Int) < ((cc (links b)).length : Int) by rw [cc_len]; omega)
    have c3 := ot (show (0 : Int) ≤ (i : Int) by omega)
    rw [loopFix_eq, first]
    by_cases h0 : i = 0
    · subst h0
      have hzz : ((List.replicate 32 (0 : Int)).zip (List.replicate 32 (0 : Int))).all (fun p => teq (.int .u8) p.1 p.2) = true := zip_self _
      have hah : ahead (links a) 0 = ahead (links b) 0 := by simp [ahead]
      have c0 := of_ (show ¬ ((0 : Nat) : Int) > 0 by omega)
      by_cases h1 : (links a).getD 0 [] = (links b).getD 0 []
      · rw [ot h1] at hz
        by_cases h3 : a.getD 0 [] = b.getD 0 []
        · rw [ot h3] at hq
          have hP : clashP a b 0 = false := of_ (fun h => h.2.elim (fun g => g hah) (fun g => g h3))
          rw [if_neg (by rw [hP]; simp)]
          simp only [jobberref1_Clash_l3, c1, c2, c0, c3, cond_true, cond_false, Int.toNat_natCast, cc_get (show 0 < (links a).length by omega), cc_get (show 0 < (links b).length by omega), Option.bind_some, hz, hzz, Bool.not_true, cc_get (show 0 < a.length by omega), cc_get (show 0 < b.length by omega), hq, e1]
          exact ih
        · rw [of_ h3] at hq
          have hP : clashP a b 0 = true := ot ⟨h1, .inr h3⟩
          rw [if_pos hP, outR_nat]
          simp only [jobberref1_Clash_l3, c1, c2, c0, c3, cond_true, cond_false, Int.toNat_natCast, cc_get (show 0 < (links a).length by omega), cc_get (show 0 < (links b).length by omega), Option.bind_some, hz, hzz, Bool.not_true, cc_get (show 0 < a.length by omega), cc_get (show 0 < b.length by omega), hq, Bool.not_false]
      · rw [of_ h1] at hz
        have hP : clashP a b 0 = false := of_ (fun h => h1 h.1)
        rw [if_neg (by rw [hP]; simp)]
        simp only [jobberref1_Clash_l3, c1, c2, c0, c3, cond_true, cond_false, Int.toNat_natCast, cc_get (show 0 < (links a).length by omega), cc_get (show 0 < (links b).length by omega), Option.bind_some, hz, e1]
        exact ih
    · have c0 := ot (show (i : Int) > 0 by omega)
      have e2 : wr .i64 ((i : Int) - 1) = ((i - 1 : Nat) : Int) := by rw [wr64 (by omega) (by omega)]; omega
      have c4 := ot (show (0 : Int) ≤ ((i - 1 : Nat) : Int) by omega)
      have aha : ahead (links a) i = (links a).getD (i - 1) [] := by rw [ahead, if_neg h0]
      have ahb : ahead (links b) i = (links b).getD (i - 1) [] := by rw [ahead, if_neg h0]
      rw [aha, ahb] at hz2
      by_cases h1 : (links a).getD i [] = (links b).getD i []
      · rw [ot h1] at hz
        by_cases h2 : (links a).getD (i - 1) [] = (links b).getD (i - 1) []
        · rw [ot h2] at hz2
          by_cases h3 : a.getD i [] = b.getD i []
          · rw [ot h3] at hq
            have hP : clashP a b i = false := of_ (fun h => h.2.elim (fun g => g (by rw [aha, ahb]; exact h2)) (fun g => g h3))
            rw [if_neg (by rw [hP]; simp)]
            simp only [jobberref1_Clash_l3, c1, c2, c0, c3, c4, e2, cond_true, cond_false, Int.toNat_natCast, cc_get (show i - 1 < (links a).length by omega), cc_get (show i - 1 < (links b).length by omega), cc_get (show i < (links a).length by omega), cc_get (show i < (links b).length by omega), Option.bind_some, hz, hz2, Bool.not_true, cc_get (show i < a.length by omega), cc_get (show i < b.length by omega), hq, e1]
            exact ih
          · rw [of_ h3] at hq
            have hP : clashP a b i = true := ot ⟨h1, .inr h3⟩
            rw [if_pos hP, outR_nat]
            simp only [jobberref1_Clash_l3, c1, c2, c0, c3, c4, e2, cond_true, cond_false, Int.toNat_natCast, cc_get (show i - 1 < (links a).length by omega), cc_get (show i - 1 < (links b).length by omega), cc_get (show i < (links a).length by omega), cc_get (show i < (links b).length by omega), Option.bind_some, hz, hz2, Bool.not_true, cc_get (show i < a.length by omega), cc_get (show i < b.length by omega), hq, Bool.not_false]
        · rw [of_ h2] at hz2
          have hP : clashP a b i = true := ot ⟨h1, .inl (by rw [aha, ahb]; exact h2)⟩
          rw [if_pos hP, outR_nat]
          simp only [jobberref1_Clash_l3, c1, c2, c0, c3, c4, e2, cond_true, cond_false, Int.toNat_natCast, cc_get (show i - 1 < (links a).length by omega), cc_get (show i - 1 < (links b).length by omega), cc_get (show i < (links a).length by omega), cc_get (show i < (links b).length by omega), Option.bind_some, hz, hz2, Bool.not_false]
      · rw [of_ h1] at hz
        have hP : clashP a b i = false := of_ (fun h => h1 h.1)
        rw [if_neg (by rw [hP]; simp)]
        simp only [jobberref1_Clash_l3, c1, c2, c0, c3, c4, e2, cond_true, cond_false, Int.toNat_natCast, cc_get (show i - 1 < (links a).length by omega), cc_get (show i - 1 < (links b).length by omega), cc_get (show i < (links a).length by omega), cc_get (show i < (links b).length by omega), Option.bind_some, hz, e1]
        exact ih
theorem refClash_ok (a b : List (List Nat)) (ha : Recs a) (hb : Recs b) : jobberref1_Clash ((cc a, cc b, ()), ()) = some ((clashN a b, ()), ()) := by
  have h2 := refClash_loop a b ha hb (min a.length b.length) 0 (by omega)
  have h2' : loopFix jobberref1_Clash_l3 ((cc a, cc b, cc (links a), cc (links b), 0, ()), ()) = _ := h2
  simp only [jobberref1_Clash, refLinks_ok a ha, refLinks_ok b hb, Option.bind_some, h2']
  exact outR_back _ (first_ge _ _ _)
/-! ### the laws -/
theorem recs_of : ∀ {l : List (List Int)}, (∀ x ∈ l, Rng (.deep (.int .u8)) x) → ∃ r : List (List Nat), l = cc r ∧ ∀ b ∈ r, ∀ y ∈ b, y < 256
  | [], _ => ⟨[], rfl, by simp⟩
  | x :: l, h => by
    obtain ⟨r, h1, h2⟩ := recs_of (l := l) (fun y hy => h y (List.mem_cons_of_mem _ hy))
    obtain ⟨b, g1, g2⟩ := rng_bytes (h x (List.mem_cons_self ..))
    refine ⟨b :: r, by rw [h1, g1]; rfl, fun c hc => ?_⟩
    rcases List.mem_cons.1 hc with rfl | hc
    · exact g2
    · exact h2 c hc
theorem rng_recs {l : List (List Int)} (h : Rng (.deep (.deep (.int .u8))) l) : ∃ r : List (List Nat), l = cc r ∧ ∀ b ∈ r, ∀ y ∈ b, y < 256 := recs_of fun x hx => h.2 x hx
theorem rng_sum4 {l : List Int} (h : Rng (.arr 32 (.int .u8)) l) : ∃ bs : List Nat, l = ci bs ∧ bs.length = 32 ∧ ∀ x ∈ bs, x < 256 := by
  obtain ⟨bs, h1, h2⟩ := bytes_of fun x hx => rng8 (h.2 x hx)
  have h3 : l.length = 32 := h.1
  exact ⟨bs, h1, by rw [h1, ci_len] at h3; exact h3, h2⟩
theorem clash_self (a : List (List Nat)) : clashN a a = -1 := first_no fun j _ _ => of_ fun h => h.2.elim (fun g => g rfl) fun g => g rfl
theorem chk_self (x : List (List Nat)) : chkN x x = -1 := first_no fun j _ hj => of_ fun h => by
  rcases h with h | h | h
  · omega
  · omega
  · exact h rfl
theorem getD_take {x : List (List Nat)} {n q : Nat} (h : q < n) : (x.take n).getD q [] = x.getD q [] := by
  rw [List.getD_eq_getElem?_getD, List.getD_eq_getElem?_getD, List.getElem?_take_of_lt h]
theorem chk_take {x : List (List Nat)} {n : Nat} (h : n < x.length) : chkN x (x.take n) = (n : Int) := by
  have e : (x.take n).length = n := by rw [List.length_take]; omega
  exact first_at (by omega) (by omega) (ot (.inr (.inl (by omega)))) fun q _ hq => of_ fun g => by
    rcases g with g | g | g
    · omega
    · omega
    · exact g (getD_take hq).symm
theorem chk_more {x : List (List Nat)} {n : Nat} (h : n < x.length) : chkN (x.take n) x = (n : Int) := by
  have e : (x.take n).length = n := by rw [List.length_take]; omega
  exact first_at (by omega) (by omega) (ot (.inl (by omega))) fun q _ hq => of_ fun g => by
    rcases g with g | g | g
    · omega
    · omega
    · exact g (getD_take hq)
def three : List (List Nat) := [[97], [98], []]
theorem three_cc : ([([97] : List Int), ([98] : List Int), ([] : List Int)] : List (List Int)) = cc three := rfl
theorem three_recs : Recs three := ⟨by decide, by decide⟩
theorem All32.take {l : List (List Nat)} (h : All32 l) (n : Nat) : All32 (l.take n) := ⟨by have := h.1; rw [List.length_take]; omega, fun x hx => h.2 x (List.mem_of_mem_take hx)⟩
theorem Recs.take {l : List (List Nat)} (h : Recs l) (n : Nat) : Recs (l.take n) := ⟨by have := h.1; rw [List.length_take]; omega, fun x hx => h.2 x (List.mem_of_mem_take hx)⟩
theorem two_nat : (2 : Int).toNat = 2 := rfl
theorem jobberlaw4_ChainRuns.law : jobberlaw4_ChainRuns ((), ()) = some ((true, ()), ()) := by
  have hl : (links three).length = 3 := links_len three
  have e1 := links_ok three three_recs
  have e2 := clash_ok three three three_recs three_recs
  rw [clash_self] at e2
  have e3 := check_ok three (links three) three_recs (links_all three_recs)
  rw [chk_self] at e3
  have e4 := check_ok three ((links three).take 2) three_recs ((links_all three_recs).take 2)
  rw [chk_take (by omega)] at e4
  have e5 : ((cc (links three)).length : Int) = 3 := by rw [cc_len, hl]; rfl
  have n2 : (((2 : Nat) : Int)) = 2 := rfl
  simp only [jobberlaw4_ChainRuns, three_cc, e1, Option.bind_some, e5, odT, cond_true, e2, e3, ot (show (0 : Int) ≤ 0 ∧ (0 : Int) ≤ 2 ∧ (2 : Int) ≤ 3 by omega), two_nat, cc_take, e4, n2, odT]
theorem bv8 {x : Nat} (hx : x < 256) : (BitVec.ofInt 8 (x : Int)).toNat = x := by rw [BitVec.toNat_ofInt]; omega
theorem xor256 {x n : Nat} (hx : x < 256) (hn : n < 256) : x ^^^ n < 256 := Nat.xor_lt_two_pow (n := 8) hx hn
theorem bxor8 {x y : Nat} (hx : x < 256) (hy : y < 256) : bxor .u8 (x : Int) (y : Int) = ((x ^^^ y : Nat) : Int) := by
  have : (BitVec.ofInt IntKind.u8.bits (x : Int) ^^^ BitVec.ofInt IntKind.u8.bits (y : Int)).toNat = x ^^^ y := by
    show (BitVec.ofInt 8 (x : Int) ^^^ BitVec.ofInt 8 (y : Int)).toNat = x ^^^ y
    rw [BitVec.toNat_xor, bv8 hx, bv8 hy]
  rw [bxor, this, wr8n, Nat.mod_eq_of_lt (xor256 hx hy)]
theorem xor_self4 {x t : Nat} (h : x ^^^ t = x) : t = 0 := by
  have : x ^^^ (x ^^^ t) = x ^^^ x := by rw [h]
  rw [← Nat.xor_assoc, Nat.xor_self, Nat.zero_xor] at this
  exact this
theorem band31 (v : Int) : ∃ j : Nat, j < 32 ∧ band .i64 v 31 = (j : Int) := by
  have h2 : (BitVec.ofInt 64 (31 : Int)).toNat = 31 := rfl
  have h3 : (BitVec.ofInt 64 v).toNat &&& 31 ≤ 31 := Nat.and_le_right
  refine ⟨(BitVec.ofInt 64 v).toNat &&& 31, by omega, ?_⟩
  show wr .i64 ((BitVec.ofInt 64 v &&& BitVec.ofInt 64 (31 : Int)).toNat : Int) = _
  rw [BitVec.toNat_and, h2, wr64 (by omega) (by omega)]
theorem ci_set (b : List Nat) (j n : Nat) : (ci b).set j (n : Int) = ci (b.set j n) := by simp [ci, List.map_set]
/-- a link that is changed is told -/
theorem chk_set {L : List (List Nat)} {k j t : Nat} (hk : k < L.length) (hj : j < (L.getD k []).length) (ht : t ≠ 0) :
    chkN L (L.set k ((L.getD k []).set j ((L.getD k []).getD j 0 ^^^ t))) = (k : Int) := by
  have e : (L.set k ((L.getD k []).set j ((L.getD k []).getD j 0 ^^^ t))).length = L.length := List.length_set
  refine first_at (by omega) (by omega) (ot (.inr (.inr ?_))) fun q _ hq => of_ fun g => ?_
  · intro h
    rw [List.getD_eq_getElem?_getD (l := L.set _ _), List.getElem?_set_self hk, Option.getD_some] at h
    have h2 : (L.getD k []).getD j 0 = ((L.getD k []).set j ((L.getD k []).getD j 0 ^^^ t)).getD j 0 := congrArg (fun l : List Nat => l.getD j 0) h
    rw [List.getD_eq_getElem?_getD (l := List.set _ _ _), List.getElem?_set_self hj, Option.getD_some] at h2
    exact ht (xor_self4 h2.symm)
  · rcases g with g | g | g
    · omega
    · omega
    · exact g (by rw [List.getD_eq_getElem?_getD (l := L.set _ _), List.getElem?_set_ne (by omega), List.getD_eq_getElem?_getD])
theorem within4 {v hi : Int} (hv : Rng (.int .i64) v) (h1 : 0 ≤ hi) (h2 : hi ≤ 1000000) : ∃ r : Nat, (r : Int) ≤ hi ∧ jobberbook_Within ((v, 0, hi, ()), ()) = some (((r : Int), ()), ()) := by
  obtain ⟨r, r0, r1, er⟩ : ∃ r, 0 ≤ r ∧ r ≤ hi ∧ jobberbook_Within ((v, 0, hi, ()), ()) = some ((r, ()), ()) := within_ok hv (by omega) (by omega) (by omega) (by omega)
  obtain ⟨k, rfl⟩ : ∃ k : Nat, r = (k : Int) := ⟨r.toNat, by omega⟩
  exact ⟨k, r1, er⟩
theorem jobberlaw4_ChainTells.law0 (a b : List (List Nat)) (p : List Nat) (at_ : Int) (t : Nat) (ha : ∀ x ∈ a, ∀ y ∈ x, y < 256) (hb : ∀ x ∈ b, ∀ y ∈ x, y < 256) (hp : p.length = 32) (xp : ∀ y ∈ p, y < 256) (hat : Rng (.int .i64) at_) (ht : t < 256) : jobberlaw4_ChainTells ((cc a, cc b, ci p, at_, (t : Int), ()), ()) = some ((true, ()), ()) := by
  obtain ⟨A, hA, lA, bA, eA⟩ := few_ok a ha
  obtain ⟨B, hB, lB, bB, eB⟩ := few_ok b hb
  have e1 := refLinks_ok A hA
  have e2 := links_ok A hA
  have e3 := sums_same (links A) (links_all hA).1
  have e4 := clash_ok A B hA hB
  have e5 := refClash_ok A B hA hB
  have e6 := jobberlaw4_ChainRuns.law
  have e7 := check_ok A (links A) hA (links_all hA)
  rw [chk_self] at e7
  have hl := links_len A
  have el : ((cc (links A)).length : Int) = (A.length : Int) := by rw [cc_len, hl]
  have el2 : ((cc A).length : Int) = (A.length : Int) := by rw [cc_len]
  have m1 := ot (show (-1 : Int) = -1 from rfl)
  have cl := ot (show clashN A B = clashN A B from rfl)
  by_cases h0 : A.length = 0
  · have g1 := link_ok p [t] hp xp (by simp) (by simpa using ht)
    have g2 := refLink_ok p [t] hp xp (by simp) (by simpa using ht)
    have g3 : ci [t] = [(t : Int)] := rfl
    rw [g3] at g1 g2
    have c0 := of_ (show ¬ (A.length : Int) > 0 by omega)
    simp only [jobberlaw4_ChainTells, eA, eB, Option.bind_some, e1, el, el2, c0, cond_false, g1, g2, zip_self, cond_true, e2, e3, e7, odT, e4, e5, e6]
  · have c0 := ot (show (A.length : Int) > 0 by omega)
    have c1 := ot (show (0 : Int) ≤ (0 : Int) ∧ (0 : Int) < (A.length : Int) by omega)
    have hr := hA.at_ 0
    have g1 := link_ok p (A.getD 0 []) hp xp hr.1 hr.2
    have g2 := refLink_ok p (A.getD 0 []) hp xp hr.1 hr.2
    have g3 : (cc A)[(0 : Int).toNat]? = some (ci (A.getD 0 [])) := cc_get (show 0 < A.length by omega)
    by_cases h1 : t = 0
    · subst h1
      have c2 := ot (show ((0 : Nat) : Int) = 0 from rfl)
      simp only [jobberlaw4_ChainTells, eA, eB, Option.bind_some, e1, el, el2, c0, c2, Bool.not_true, cond_false, c1, g3, g1, g2, zip_self, cond_true, e2, e3, e7, odT, e4, e5, e6]
    · have c2 := of_ (show ¬ (t : Int) = 0 by omega)
      have w1 : wr .i64 ((A.length : Int) - 1) = (A.length : Int) - 1 := wr64 (by omega) (by omega)
      obtain ⟨k, r1, er⟩ := within4 (v := at_) (hi := (A.length : Int) - 1) hat (by omega) (by omega)
      obtain ⟨j, hj, ej⟩ := band31 at_
      have hk : k < (links A).length := by omega
      have ll := (links_all hA).at_ hk
      have c3 := ot (show (0 : Int) ≤ (k : Int) ∧ (k : Int) < (A.length : Int) by omega)
      have c4 := ot (show (0 : Int) ≤ (j : Int) ∧ (j : Int) < ((32 : Nat) : Int) by omega)
      have hx : ∀ y ∈ (links A).getD k [], y < 256 := by
        rw [List.getD_eq_getElem?_getD, List.getElem?_eq_getElem hk]
        exact (linksF_mem A z32 _ (List.getElem_mem hk)).2
      have hg := ci_get (show j < ((links A).getD k []).length by omega)
      have hx1 : ((links A).getD k []).getD j 0 < 256 := getD_lt (by omega) hx j
      have s1 : (cc (links A)).set k ((ci ((links A).getD k [])).set j (bxor .u8 ((((links A).getD k []).getD j 0 : Nat) : Int) (t : Int))) = cc ((links A).set k (((links A).getD k []).set j (((links A).getD k []).getD j 0 ^^^ t))) := by
        rw [bxor8 hx1 ht, ci_set, cc_set]
      have e8 := check_ok A ((links A).set k (((links A).getD k []).set j (((links A).getD k []).getD j 0 ^^^ t))) hA ⟨by rw [List.length_set]; exact (links_all hA).1, fun x hx => by
        rcases List.mem_or_eq_of_mem_set hx with hx | rfl
        · exact (links_all hA).2 x hx
        · rw [List.length_set]; exact ll⟩
      rw [chk_set hk (by omega) h1] at e8
      have c5 := ot (show (k : Int) = (k : Int) from rfl)
      simp only [jobberlaw4_ChainTells, eA, eB, Option.bind_some, e1, el, el2, c0, c2, Bool.not_false, w1, er, c3, ej, c4, Int.toNat_natCast, cc_get hk, hg, c1, g3, g1, g2, zip_self, cond_true, e2, e3, s1, e8, odT, e4, e5, e6]
theorem jobberlaw4_ChainTells.law (a b : List (List Int)) (p : List Int) (at_ t : Int) (h0 : Rng (.deep (.deep (.int .u8))) a) (h1 : Rng (.deep (.deep (.int .u8))) b) (h2 : Rng (.arr 32 (.int .u8)) p) (h3 : Rng (.int .i64) at_) (h4 : Rng (.int .u8) t) : jobberlaw4_ChainTells ((a, b, p, at_, t, ()), ()) = some ((true, ()), ()) := by
  obtain ⟨a, rfl, ha⟩ := rng_recs h0
  obtain ⟨b, rfl, hb⟩ := rng_recs h1
  obtain ⟨p, rfl, hp, xp⟩ := rng_sum4 h2
  have h5 := rng8 h4
  obtain ⟨t, rfl⟩ : ∃ k : Nat, t = (k : Int) := ⟨t.toNat, by omega⟩
  exact jobberlaw4_ChainTells.law0 a b p at_ t ha hb hp xp h3 (by omega)
theorem ext_getD {a b : List (List Nat)} (hl : a.length = b.length) (h : ∀ i, i < a.length → a.getD i [] = b.getD i []) : a = b := by
  apply List.ext_getElem? 
  intro i
  by_cases hi : i < a.length
  · have := h i hi
    rw [List.getD_eq_getElem?_getD, List.getD_eq_getElem?_getD, List.getElem?_eq_getElem hi, List.getElem?_eq_getElem (show i < b.length by omega)] at this
    rw [List.getElem?_eq_getElem hi, List.getElem?_eq_getElem (show i < b.length by omega)]
    exact congrArg some this
  · rw [List.getElem?_eq_none (by omega), List.getElem?_eq_none (by omega)]
/-- one chain's links checked against the other's records -/
theorem holds_core (A B : List (List Nat)) (hl : B.length = A.length) : (A = B ∧ chkN (links B) (links A) = -1) ∨ (A ≠ B ∧ 0 ≤ chkN (links B) (links A) ∧ chkN (links B) (links A) < (A.length : Int)) ∨ (A ≠ B ∧ chkN (links B) (links A) = -1 ∧ ∃ j : Nat, clashN A B = (j : Int) ∧ j < A.length ∧ clashP A B j = true) := by
  have la := links_len A
  have lb := links_len B
  by_cases e : A = B
  · subst e; exact .inl ⟨rfl, chk_self _⟩
  · right
    rcases first_spec (chkP (links B) (links A)) (max (links B).length (links A).length) 0 with ⟨h1, h2⟩ | ⟨j, h1, h2, h3, h4, h5⟩
    · right
      refine ⟨e, h1, ?_⟩
      have hx : ∀ i, i < A.length → (links B).getD i [] = (links A).getD i [] := fun i hi => by
        have g := h2 i (by omega) (by omega)
        by_cases q : (links B).getD i [] = (links A).getD i []
        · exact q
        · rw [chkP, ot (.inr (.inr q))] at g; cases g
      rcases first_spec (clashP A B) (min A.length B.length) 0 with ⟨g1, g2⟩ | ⟨j, g1, g2, g3, g4, g5⟩
      · exfalso
        apply e
        refine ext_getD hl.symm fun i hi => ?_
        have g := g2 i (by omega) (by omega)
        by_cases q : A.getD i [] = B.getD i []
        · exact q
        · rw [clashP, ot ⟨(hx i hi).symm, .inr q⟩] at g; cases g
      · exact ⟨j, g1, by omega, g4⟩
    · left
      have h1' : chkN (links B) (links A) = (j : Int) := h1
      exact ⟨e, by omega, by omega⟩
theorem take_app (l : List Int) (n : Nat) : ([] : List Int) ++ l.take n = l.take n := by simp
theorem Recs.set {l : List (List Nat)} (h : Recs l) (i : Nat) {b : List Nat} (h1 : b.length ≤ 100000) (h2 : ∀ y ∈ b, y < 256) : Recs (l.set i b) := ⟨by rw [List.length_set]; exact h.1, fun x hx => by
  rcases List.mem_or_eq_of_mem_set hx with hx | rfl
  · exact h.2 x hx
  · exact ⟨h1, h2⟩⟩
theorem jobberlaw4_ChainHolds.law0 (l : List (List Nat)) (i j : Int) (e : List Nat) (hl : ∀ x ∈ l, ∀ y ∈ x, y < 256) (hi : Rng (.int .i64) i) (hj : Rng (.int .i64) j) (he : ∀ y ∈ e, y < 256) : jobberlaw4_ChainHolds ((cc l, i, j, ci e, ()), ()) = some ((true, ()), ()) := by
  obtain ⟨A, hA, lA, bA, eA⟩ := few_ok l hl
  have e2 := links_ok A hA
  have e6 := jobberlaw4_ChainRuns.law
  have el2 : ((cc A).length : Int) = (A.length : Int) := by rw [cc_len]
  by_cases h0 : A.length = 0
  · simp only [jobberlaw4_ChainHolds, eA, Option.bind_some, el2, ot (show (A.length : Int) = 0 by omega), cond_true, e6]
  · have c0 := of_ (show ¬ (A.length : Int) = 0 by omega)
    have w1 : wr .i64 ((A.length : Int) - 1) = (A.length : Int) - 1 := wr64 (by omega) (by omega)
    obtain ⟨x, x1, ex⟩ := within4 (v := i) (hi := (A.length : Int) - 1) hi (by omega) (by omega)
    obtain ⟨y, y1, ey⟩ := within4 (v := j) (hi := (A.length : Int) - 1) hj (by omega) (by omega)
    have c1 := ot (show (0 : Int) ≤ (x : Int) ∧ (x : Int) < (A.length : Int) by omega)
    have c2 := ot (show (0 : Int) ≤ (y : Int) ∧ (y : Int) < (A.length : Int) by omega)
    have rx := hA.at_ x
    have ry := hA.at_ y
    have hS : Recs ((A.set x (A.getD y [])).set y (A.getD x [])) := (hA.set x ry.1 ry.2).set y rx.1 rx.2
    have nx : x < A.length := by omega
    have ny : y < A.length := by omega
    have ny' : y < (A.set x (A.getD y [])).length := by rw [List.length_set]; exact ny
    have ny'' : y < ((A.set x (A.getD y [])).set y (A.getD x [])).length := by rw [List.length_set]; exact ny'
    have fin : ∀ B : List (List Nat), Recs B → B.length = A.length → (A = B ∧ chain_Check ((cc B, cc (links A), ()), ()) = some ((-1, ()), ()) ∧ jobberlaw4_same ((cc A, cc B, ()), ()) = some ((true, ()), ())) ∨ (jobberlaw4_same ((cc A, cc B, ()), ()) = some ((false, ()), ()) ∧ ∃ k : Nat, k < A.length ∧ chain_Check ((cc B, cc (links A), ()), ()) = some (((k : Int), ()), ())) ∨ (jobberlaw4_same ((cc A, cc B, ()), ()) = some ((false, ()), ()) ∧ chain_Check ((cc B, cc (links A), ()), ()) = some ((-1, ()), ()) ∧ ∃ k : Nat, chain_Clash ((cc A, cc B, ()), ()) = some (((k : Int), ()), ()) ∧ jobberlaw4_clashes ((cc A, cc B, (k : Int), ()), ()) = some ((true, ()), ())) := by
      intro B hB hlen
      have g1 := check_ok B (links A) hB (links_all hA)
      have g2 := same4_ok A B hA hB
      have g3 := clash_ok A B hA hB
      rcases holds_core A B hlen with ⟨q1, q2⟩ | ⟨q1, q2, q3⟩ | ⟨q1, q2, k, q3, q4, q5⟩
      · rw [q2] at g1; rw [ot q1] at g2; exact .inl ⟨q1, g1, g2⟩
      · rw [of_ q1] at g2
        obtain ⟨k, hk⟩ : ∃ k : Nat, chkN (links B) (links A) = (k : Int) := ⟨(chkN (links B) (links A)).toNat, by omega⟩
        rw [hk] at g1 q3
        exact .inr (.inl ⟨g2, k, by omega, g1⟩)
      · rw [q2] at g1; rw [of_ q1] at g2; rw [q3] at g3
        exact .inr (.inr ⟨g2, g1, k, g3, clashes_ok A B hA hB k q4 (by omega) q5⟩)
    have m0 := of_ (show ¬ (-1 : Int) ≥ 0 by omega)
    have m1 := ot (show (-1 : Int) = -1 from rfl)
    have gy := cc_get ny
    have gx := cc_get nx
    have gy' := cc_get ny'
    have gy'' := cc_get ny''
    have ls1 : ((cc (A.set x (A.getD y []))).length : Int) = (A.length : Int) := by rw [cc_len, List.length_set]
    have ls2 : ((cc ((A.set x (A.getD y [])).set y (A.getD x []))).length : Int) = (A.length : Int) := by rw [cc_len, List.length_set, List.length_set]
    have ece : ((ci e).length : Int) = (e.length : Int) := by rw [ci_len]
    by_cases h1 : e.length = 0
    · have c3 := of_ (show ¬ (e.length : Int) > 0 by omega)
      rcases fin _ hS (by rw [List.length_set, List.length_set]) with ⟨q1, q2, q3⟩ | ⟨q2, k, q3, q4⟩ | ⟨q2, q3, k, q4, q5⟩
      · simp only [jobberlaw4_ChainHolds, eA, Option.bind_some, el2, c0, cond_false, w1, ex, ey, c2, cond_true, Int.toNat_natCast, gy, gx, c1, cc_set, ls1, gy', ece, c3, e2, q2, q3, m1, odT, e6]
      · simp only [jobberlaw4_ChainHolds, eA, Option.bind_some, el2, c0, cond_false, w1, ex, ey, c2, cond_true, Int.toNat_natCast, gy, gx, c1, cc_set, ls1, gy', ece, c3, e2, q2, q4, ot (show (k : Int) ≥ 0 by omega), ot (show (k : Int) < (A.length : Int) by omega), e6]
      · simp only [jobberlaw4_ChainHolds, eA, Option.bind_some, el2, c0, cond_false, w1, ex, ey, c2, cond_true, Int.toNat_natCast, gy, gx, c1, cc_set, ls1, gy', ece, c3, e2, q2, q3, q4, q5, m0, odT, e6]
    · have c3 := ot (show (e.length : Int) > 0 by omega)
      obtain ⟨t1, t2, t3⟩ := imin_take (ci e) 40 40 rfl
      rw [ece] at t1 t2 t3
      rw [ci_take e 40] at t1
      have c4 : odec (0 ≤ (0 : Int) ∧ (0 : Int) ≤ imin (e.length : Int) 40 ∧ imin (e.length : Int) 40 ≤ (e.length : Int)) = true := ot ⟨by omega, t2, t3⟩
      have le : (e.take 40).length ≤ 40 := by rw [List.length_take]; omega
      have c5 : odec (((([] : List Int).length + (ci (e.take 40)).length : Nat) : Int) * ((1 : Nat) : Int) ≤ (room : Nat)) = true := inRoom (by rw [ci_len, List.length_nil]; omega)
      have hE : Recs (((A.set x (A.getD y [])).set y (A.getD x [])).set y (e.take 40)) := hS.set y (by omega) (fun z hz => he z (List.mem_of_mem_take hz))
      rcases fin _ hE (by rw [List.length_set, List.length_set, List.length_set]) with ⟨q1, q2, q3⟩ | ⟨q2, k, q3, q4⟩ | ⟨q2, q3, k, q4, q5⟩
      · simp only [jobberlaw4_ChainHolds, eA, Option.bind_some, el2, c0, cond_false, w1, ex, ey, c2, cond_true, Int.toNat_natCast, gy, gx, c1, cc_set, ls1, gy', ece, c3, c4, t1, c5, ls2, gy'', List.nil_append, e2, q2, q3, m1, odT, e6]
      · simp only [jobberlaw4_ChainHolds, eA, Option.bind_some, el2, c0, cond_false, w1, ex, ey, c2, cond_true, Int.toNat_natCast, gy, gx, c1, cc_set, ls1, gy', ece, c3, c4, t1, c5, ls2, gy'', List.nil_append, e2, q2, q4, ot (show (k : Int) ≥ 0 by omega), ot (show (k : Int) < (A.length : Int) by omega), e6]
      · simp only [jobberlaw4_ChainHolds, eA, Option.bind_some, el2, c0, cond_false, w1, ex, ey, c2, cond_true, Int.toNat_natCast, gy, gx, c1, cc_set, ls1, gy', ece, c3, c4, t1, c5, ls2, gy'', List.nil_append, e2, q2, q3, q4, q5, m0, odT, e6]
theorem jobberlaw4_ChainHolds.law (l : List (List Int)) (i j : Int) (e : List Int) (h0 : Rng (.deep (.deep (.int .u8))) l) (h1 : Rng (.int .i64) i) (h2 : Rng (.int .i64) j) (h3 : Rng (.deep (.int .u8)) e) : jobberlaw4_ChainHolds ((l, i, j, e, ()), ()) = some ((true, ()), ()) := by
  obtain ⟨l, rfl, hl⟩ := rng_recs h0
  obtain ⟨e, rfl, he⟩ := rng_bytes h3
  exact jobberlaw4_ChainHolds.law0 l i j e hl h1 h2 he
/-- where the last links agree and the records don't, there is a clash -/
theorem last_core (A B : List (List Nat)) (n : Nat) (la : A.length = n + 1) (lb : B.length = n + 1) (h : (links A).getD n [] = (links B).getD n []) (hne : A ≠ B) : ∃ j : Nat, clashN A B = (j : Int) ∧ j < n + 1 ∧ clashP A B j = true := by
  rcases first_spec (clashP A B) (min A.length B.length) 0 with ⟨g1, g2⟩ | ⟨j, g1, g2, g3, g4, g5⟩
  · exfalso
    have down : ∀ d i, i + d = n → (links A).getD i [] = (links B).getD i [] := by
      intro d
      induction d with
      | zero => intro i hi; have : i = n := by omega
                subst this; exact h
      | succ d ih =>
        intro i hi
        have q := ih (i + 1) (by omega)
        have g := g2 (i + 1) (by omega) (by omega)
        by_cases w : ahead (links A) (i + 1) = ahead (links B) (i + 1)
        · simpa [ahead] using w
        · rw [clashP, ot ⟨q, .inl w⟩] at g; cases g
    apply hne
    refine ext_getD (by omega) fun i hi => ?_
    have g := g2 i (by omega) (by omega)
    by_cases w : A.getD i [] = B.getD i []
    · exact w
    · rw [clashP, ot ⟨down (n - i) i (by omega), .inr w⟩] at g; cases g
  · exact ⟨j, g1, by omega, g4⟩
theorem sub0 (n : Nat) : ((n : Int) - (0 : Int)).toNat = n := by omega
theorem jobberlaw4_ChainLast.law0 (l m : List (List Nat)) (cut : Int) (hl : ∀ x ∈ l, ∀ y ∈ x, y < 256) (hm : ∀ x ∈ m, ∀ y ∈ x, y < 256) (hc : Rng (.int .i64) cut) : jobberlaw4_ChainLast ((cc l, cc m, cut, ()), ()) = some ((true, ()), ()) := by
  obtain ⟨A, hA, lA, bA, eA⟩ := few_ok l hl
  obtain ⟨B, hB, lB, bB, eB⟩ := few_ok m hm
  have e6 := jobberlaw4_ChainRuns.law
  obtain ⟨n, hn⟩ : ∃ n, n = min A.length B.length := ⟨_, rfl⟩
  have e0 : imin (A.length : Int) (B.length : Int) = (n : Int) := by rw [imin_nat, hn]
  have ca : ((cc A).length : Int) = (A.length : Int) := by rw [cc_len]
  have cb : ((cc B).length : Int) = (B.length : Int) := by rw [cc_len]
  have a1 := ot (show 0 ≤ (0 : Int) ∧ (0 : Int) ≤ (n : Int) ∧ (n : Int) ≤ (A.length : Int) by omega)
  have a2 := ot (show 0 ≤ (0 : Int) ∧ (0 : Int) ≤ (n : Int) ∧ (n : Int) ≤ (B.length : Int) by omega)
  have lta : (A.take n).length = n := by rw [List.length_take]; omega
  have ltb : (B.take n).length = n := by rw [List.length_take]; omega
  have e1 := links_ok (A.take n) (hA.take n)
  have e2 := links_ok (B.take n) (hB.take n)
  have lla : (links (A.take n)).length = n := by rw [links_len, lta]
  have llb : (links (B.take n)).length = n := by rw [links_len, ltb]
  have b1 : ((cc (links (A.take n))).length : Int) = (n : Int) := by rw [cc_len, lla]
  have b2 : ((cc (links (B.take n))).length : Int) = (n : Int) := by rw [cc_len, llb]
  obtain ⟨k, hk, ek⟩ := within4 (v := cut) (hi := (n : Int)) hc (by omega) (by omega)
  have a3 := ot (show 0 ≤ (0 : Int) ∧ (0 : Int) ≤ (k : Int) ∧ (k : Int) ≤ ((n : Nat) : Int) by omega)
  have k1 := check_ok (A.take k) (links (A.take n)) (hA.take k) (links_all (hA.take n))
  have k2 := check_ok (A.take n) ((links (A.take n)).take k) (hA.take n) ((links_all (hA.take n)).take k)
  have tt : A.take k = (A.take n).take k := by rw [List.take_take]; congr 1; omega
  have lk : links (A.take k) = (links (A.take n)).take k := by rw [tt, links_take (A.take n)]
  rw [lk] at k1
  have fin : (jobberlaw4_same ((cc (A.take n), cc (B.take n), ()), ()) = some ((true, ()), ())) ∨ (n ≠ 0 ∧ jobberlaw4_same ((cc (A.take n), cc (B.take n), ()), ()) = some ((false, ()), ()) ∧ ((((ci ((links (A.take n)).getD (n - 1) [])).zip (ci ((links (B.take n)).getD (n - 1) []))).all fun p => teq (.int .u8) p.1 p.2) = false ∨ ((((ci ((links (A.take n)).getD (n - 1) [])).zip (ci ((links (B.take n)).getD (n - 1) []))).all fun p => teq (.int .u8) p.1 p.2) = true ∧ ∃ j : Nat, chain_Clash ((cc (A.take n), cc (B.take n), ()), ()) = some (((j : Int), ()), ()) ∧ jobberlaw4_clashes ((cc (A.take n), cc (B.take n), (j : Int), ()), ()) = some ((true, ()), ())))) := by
    have g2 := same4_ok (A.take n) (B.take n) (hA.take n) (hB.take n)
    have g3 := clash_ok (A.take n) (B.take n) (hA.take n) (hB.take n)
    by_cases q : A.take n = B.take n
    · rw [ot q] at g2; exact .inl g2
    · right
      rw [of_ q] at g2
      have n0 : n ≠ 0 := fun e => q (by rw [e]; rfl)
      refine ⟨n0, g2, ?_⟩
      have hz := zip_ci ((links_all (hA.take n)).at_ (show n - 1 < (links (A.take n)).length by omega)) ((links_all (hB.take n)).at_ (show n - 1 < (links (B.take n)).length by omega))
      by_cases w : (links (A.take n)).getD (n - 1) [] = (links (B.take n)).getD (n - 1) []
      · right
        rw [ot w] at hz
        obtain ⟨j, h1, h2, h3⟩ := last_core (A.take n) (B.take n) (n - 1) (by omega) (by omega) w q
        rw [h1] at g3
        exact ⟨hz, j, g3, clashes_ok _ _ (hA.take n) (hB.take n) j (by omega) (by omega) h3⟩
      · left; rw [of_ w] at hz; exact hz
  by_cases hkn : k = n
  · subst hkn
    have z1 : chkN ((links (A.take k)).take k) (links (A.take k)) = -1 := by rw [List.take_of_length_le (l := links (A.take k)) (by omega)]; exact chk_self _
    have z2 : chkN (links (A.take k)) ((links (A.take k)).take k) = -1 := by rw [List.take_of_length_le (l := links (A.take k)) (by omega)]; exact chk_self _
    rw [z1] at k1; rw [z2] at k2
    by_cases n0 : k = 0
    · simp only [jobberlaw4_ChainLast, eA, eB, Option.bind_some, e0, ca, cb, a1, a2, cond_true, sub0, cc_take, e1, e2, b1, b2, odT, Bool.not_true, cond_false, ek, a3, k1, Int.toNat_natCast, k2, ot (show (k : Int) = 0 by omega), e6]
    · have c0 := of_ (show ¬ (k : Int) = 0 by omega)
      have w1 : wr .i64 ((k : Int) - 1) = ((k - 1 : Nat) : Int) := by rw [wr64 (by omega) (by omega)]; omega
      have c1 := ot (show (0 : Int) ≤ ((k - 1 : Nat) : Int) by omega)
      have x1 := cc_get (show k - 1 < (links (A.take k)).length by omega)
      have x2 := cc_get (show k - 1 < (links (B.take k)).length by omega)
      rcases fin with f | ⟨_, f, f2 | ⟨f2, j, f3, f4⟩⟩
      · simp only [jobberlaw4_ChainLast, eA, eB, Option.bind_some, e0, ca, cb, a1, a2, cond_true, sub0, cc_take, e1, e2, b1, b2, odT, Bool.not_true, cond_false, ek, a3, k1, Int.toNat_natCast, k2, c0, f, e6]
      · simp only [jobberlaw4_ChainLast, eA, eB, Option.bind_some, e0, ca, cb, a1, a2, cond_true, sub0, cc_take, e1, e2, b1, b2, odT, Bool.not_true, cond_false, ek, a3, k1, Int.toNat_natCast, k2, c0, f, w1, c1, x1, x2, f2, Bool.not_false, e6]
      · simp only [jobberlaw4_ChainLast, eA, eB, Option.bind_some, e0, ca, cb, a1, a2, cond_true, sub0, cc_take, e1, e2, b1, b2, odT, Bool.not_true, cond_false, ek, a3, k1, Int.toNat_natCast, k2, c0, f, w1, c1, x1, x2, f2, f3, f4, e6]
  · have hlt : k < (links (A.take n)).length := by omega
    rw [chk_more hlt] at k1; rw [chk_take hlt] at k2
    have ckn := of_ (show ¬ (k : Int) = (n : Int) by omega)
    have n0 : n ≠ 0 := by omega
    have c0 := of_ (show ¬ (n : Int) = 0 by omega)
    have w1 : wr .i64 ((n : Int) - 1) = ((n - 1 : Nat) : Int) := by rw [wr64 (by omega) (by omega)]; omega
    have c1 := ot (show (0 : Int) ≤ ((n - 1 : Nat) : Int) by omega)
    have x1 := cc_get (show n - 1 < (links (A.take n)).length by omega)
    have x2 := cc_get (show n - 1 < (links (B.take n)).length by omega)
    rcases fin with f | ⟨_, f, f2 | ⟨f2, j, f3, f4⟩⟩
    · simp only [jobberlaw4_ChainLast, eA, eB, Option.bind_some, e0, ca, cb, a1, a2, cond_true, sub0, cc_take, e1, e2, b1, b2, odT, Bool.not_true, cond_false, ek, ckn, a3, k1, Int.toNat_natCast, k2, c0, f, e6]
    · simp only [jobberlaw4_ChainLast, eA, eB, Option.bind_some, e0, ca, cb, a1, a2, cond_true, sub0, cc_take, e1, e2, b1, b2, odT, Bool.not_true, cond_false, ek, ckn, a3, k1, Int.toNat_natCast, k2, c0, f, w1, c1, x1, x2, f2, Bool.not_false, e6]
    · simp only [jobberlaw4_ChainLast, eA, eB, Option.bind_some, e0, ca, cb, a1, a2, cond_true, sub0, cc_take, e1, e2, b1, b2, odT, Bool.not_true, cond_false, ek, ckn, a3, k1, Int.toNat_natCast, k2, c0, f, w1, c1, x1, x2, f2, f3, f4, e6]
theorem jobberlaw4_ChainLast.law (l m : List (List Int)) (cut : Int) (h0 : Rng (.deep (.deep (.int .u8))) l) (h1 : Rng (.deep (.deep (.int .u8))) m) (h2 : Rng (.int .i64) cut) : jobberlaw4_ChainLast ((l, m, cut, ()), ()) = some ((true, ()), ()) := by
  obtain ⟨l, rfl, hl⟩ := rng_recs h0
  obtain ⟨m, rfl, hm⟩ := rng_recs h1
  exact jobberlaw4_ChainLast.law0 l m cut hl hm h2
theorem jobberlaw4_ChainShape.law0 (l : List (List Nat)) (p : List Nat) (hl : ∀ x ∈ l, ∀ y ∈ x, y < 256) (hp : ∀ y ∈ p, y < 256) : jobberlaw4_ChainShape ((cc l, ci p, ()), ()) = some ((true, ()), ()) := by
  obtain ⟨A, hA, lA, bA, eA⟩ := few_ok l hl
  have e6 := jobberlaw4_ChainRuns.law
  obtain ⟨i1, i2, i3⟩ := imin_take (ci p) 60 60 rfl
  have a1 : odec (0 ≤ (0 : Int) ∧ (0 : Int) ≤ (imin ((ci p).length : Int) 60) ∧ (imin ((ci p).length : Int) 60) ≤ ((ci p).length : Int)) = true := ot ⟨by omega, i2, i3⟩
  have hq : ∀ x ∈ p.take 60, x < 256 := fun x hx => hp x (List.mem_of_mem_take hx)
  have lq : (p.take 60).length ≤ 60 := by rw [List.length_take]; omega
  rw [ci_take p 60] at i1
  generalize p.take 60 = q at i1 hq lq
  have hB : Recs (A ++ [q]) := ⟨by rw [List.length_append]; simp only [List.length_cons, List.length_nil]; omega, fun b hb => by
    rcases List.mem_append.1 hb with hb | hb
    · exact hA.2 b hb
    · rw [List.mem_singleton.1 hb]; exact ⟨by omega, hq⟩⟩
  have lB : (A ++ [q]).length = A.length + 1 := by simp
  have e1 := links_ok A hA
  have e2 := links_ok (A ++ [q]) hB
  have llB : (links (A ++ [q])).length = A.length + 1 := by rw [links_len, lB]
  have llA := links_len A
  have s1 : cc A ++ ([ci q] : List (List Int)) = cc (A ++ [q]) := (cc_app A [q]).symm
  have r1 : odec (((A.length + ([ci q] : List (List Int)).length : Nat) : Int) * ((24 : Nat) : Int) ≤ (room : Nat)) = true := ot (by rw [roomI]; simp only [List.length_cons, List.length_nil]; omega)
  have t1 : (links (A ++ [q])).take A.length = links A := by rw [← links_take, List.take_left]
  have e3 := sums_same (links A) (links_all hA).1
  have c1 : ((cc (links A)).length : Int) = (A.length : Int) := by rw [cc_len, llA]
  have e9 : (cc A).length = A.length := cc_len A
  have c3 : ((cc (links (A ++ [q]))).length : Int) = ((A.length + 1 : Nat) : Int) := by rw [cc_len, llB]
  have w1 : wr .i64 ((A.length : Int) + 1) = ((A.length + 1 : Nat) : Int) := by rw [wr64 (by omega) (by omega)]; omega
  have a2 := ot (show (0 : Int) ≤ 0 ∧ (0 : Int) ≤ (A.length : Int) ∧ (A.length : Int) ≤ ((A.length + 1 : Nat) : Int) by omega)
  have a3 := ot (show (0 : Int) ≤ (A.length : Int) by omega)
  have x7 := cc_get (show A.length < (links (A ++ [q])).length by omega)
  have e7 := links_at (l := A ++ [q]) (i := A.length) (by omega)
  have g7 : (A ++ [q]).getD A.length [] = q := by simp [List.getD_eq_getElem?_getD]
  rw [g7] at e7
  have av := ahead_ok (A ++ [q]) A.length (by omega)
  have hah : A.length ≠ 0 → ahead (links (A ++ [q])) A.length = (links A).getD (A.length - 1) [] := fun h => by
    rw [ahead, if_neg h]
    have g : ((links (A ++ [q])).take A.length).getD (A.length - 1) [] = (links (A ++ [q])).getD (A.length - 1) [] := getD_take (by omega)
    rw [t1] at g
    exact g.symm
  have hah0 : A.length = 0 → ahead (links (A ++ [q])) A.length = z32 := fun h => by rw [ahead, if_pos h]
  generalize ahead (links (A ++ [q])) A.length = P at e7 av hah hah0
  rw [e7] at x7
  have g1 := link_ok P q av.1 av.2 (by omega) hq
  have wq : wr .u32 ((ci q).length : Int) = ((q.length : Nat) : Int) := by rw [ci_len]; exact wr32_id (by simp only [M32]; omega)
  have g2 := u32_ok P q.length (by omega) (by simp only [M32]; omega)
  have r2 : odec ((((ci (P ++ be4 q.length)).length + (ci q).length : Nat) : Int) * ((1 : Nat) : Int) ≤ (room : Nat)) = true := inRoom (by rw [ci_len, ci_len, List.length_append, show (be4 q.length).length = 4 from rfl]; omega)
  have g3 := shaSum_ok ((P ++ be4 q.length) ++ q) (fun x hx => by
    rcases List.mem_append.1 hx with hx | hx
    · exact (List.mem_append.1 hx).elim (av.2 x) (be4_lt _ x)
    · exact hq x hx) (by simp only [List.length_append, show (be4 q.length).length = 4 from rfl]; omega)
  rw [ci_app (P ++ be4 q.length)] at g3
  have g4 : shaN ((P ++ be4 q.length) ++ q) = linkN P q := by rw [linkN, List.append_assoc]
  rw [g4] at g3
  have k32 := cut32 av.1
  by_cases h0 : A.length = 0
  · have hz := hah0 h0
    have hz2 : List.replicate 32 (0 : Int) = ci P := by rw [hz]; exact rep_ci 32
    have c0 := of_ (show ¬ (A.length : Int) > 0 by omega)
    simp only [jobberlaw4_ChainShape, eA, Option.bind_some, a1, i1, cond_true, e1, r1, s1, e2, c1, e9, c3, odT, Bool.not_true, cond_false, w1, a2, Int.toNat_natCast, cc_take, t1, e3, c0, a3, x7, hz2, g1, zip_self, b032, t320, k32, wq, g2, r2, g3, e6]
  · have hz := hah h0
    have c0 := ot (show (A.length : Int) > 0 by omega)
    have w2 : wr .i64 ((A.length : Int) - 1) = ((A.length - 1 : Nat) : Int) := by rw [wr64 (by omega) (by omega)]; omega
    have a4 := ot (show (0 : Int) ≤ ((A.length - 1 : Nat) : Int) by omega)
    have x6 := cc_get (show A.length - 1 < (links A).length by omega)
    rw [← hz] at x6
    simp only [jobberlaw4_ChainShape, eA, Option.bind_some, a1, i1, cond_true, e1, r1, s1, e2, c1, e9, c3, odT, Bool.not_true, cond_false, w1, a2, Int.toNat_natCast, cc_take, t1, e3, c0, w2, a4, x6, a3, x7, g1, zip_self, b032, t320, k32, wq, g2, r2, g3, e6]
theorem jobberlaw4_ChainShape.law (l : List (List Int)) (p : List Int) (h0 : Rng (.deep (.deep (.int .u8))) l) (h1 : Rng (.deep (.int .u8)) p) : jobberlaw4_ChainShape ((l, p, ()), ()) = some ((true, ()), ()) := by
  obtain ⟨l, rfl, hl⟩ := rng_recs h0
  obtain ⟨p, rfl, hp⟩ := rng_bytes h1
  exact jobberlaw4_ChainShape.law0 l p hl hp
end AM
