/- The laws of chapter 20, in plain Lean. -/
import Derived.Test.YtomaidnjkmgahaaPrnB
set_option linter.unusedVariables false
set_option linter.unusedSimpArgs false
namespace AM
open Go
set_option maxRecDepth 100000
/-! ### words for bytes -/
theorem roomI : ((room : Nat) : Int) = 70368744177664 := by rw [room_eq]; rfl
theorem inRoom {n : Int} (h : n ≤ 70368744177664) : odec (n * ((1 : Nat) : Int) ≤ (room : Nat)) = true := ot (by rw [roomI]; omega)
theorem clone_ok (xs : List Int) (h : xs.length ≤ 70368744177664) : slices_Clone_byte_byte ((xs, ()), ()) = some (((), ()), (xs, ())) := by
  have e : odec (((([] : List Int).length + xs.length : Nat) : Int) * ((1 : Nat) : Int) ≤ (room : Nat)) = true := inRoom (by simp only [List.length_nil]; omega)
  simp only [slices_Clone_byte_byte, e, cond_true, List.nil_append]
  by_cases h0 : (xs.length : Int) = 0
  · have hx : xs = [] := List.eq_nil_of_length_eq_zero (by omega)
    subst hx
    rw [ot h0, cond_true, ot rfl, cond_true]
  · rw [of_ h0, cond_false]
theorem take_flat {L : List (List Int)} {i : Nat} {x : List Int} (h : L[i]? = some x) : (L.take (i + 1)).flatten = (L.take i).flatten ++ x := by
  rw [List.take_add_one, h]; simp
theorem flat_le {L : List (List Int)} (i : Nat) : (L.take i).flatten.length ≤ L.flatten.length := by
  have : L.flatten = (L.take i).flatten ++ (L.drop i).flatten := by rw [← List.flatten_append, List.take_append_drop]
  rw [this, List.length_append]; omega
theorem csum_ok (L : List (List Int)) (h : L.flatten.length ≤ 70368744177664) (hn : L.length ≤ 70368744177664) : loopFix slices_Concat_byte_byte_l3 ((L, 0, L, (L.length : Int), 0, ()), ()) = some ((L, (L.flatten.length : Int), ()), ()) := by
  have key := loop_ind (b := slices_Concat_byte_byte_l3) (fun d => ∃ i : Nat, d = ((L, ((L.take i).flatten.length : Int), L, (L.length : Int), (i : Int), ()), ()) ∧ i ≤ L.length) (fun r => r = ((L, (L.flatten.length : Int), ()), ())) (fun d => (L.length : Int).toNat - d.1.2.2.2.2.1.toNat) (by
    rintro d ⟨i, rfl, hi⟩
    by_cases h1 : i < L.length
    · right
      have ex := List.getElem?_eq_getElem h1
      have e1 : wr .i64 ((i : Int) + 1) = ((i + 1 : Nat) : Int) := by rw [wr64 (by omega) (by omega)]; omega
      have e2 : wr .i64 (((L.take i).flatten.length : Int) + (L[i].length : Int)) = ((L.take (i + 1)).flatten.length : Int) := by
        have := flat_le (L := L) (i + 1)
        rw [take_flat ex, List.length_append] at this ⊢
        rw [wr64 (by omega) (by omega)]; omega
      refine ⟨((L, ((L.take (i + 1)).flatten.length : Int), L, (L.length : Int), ((i + 1 : Nat) : Int), ()), ()), ?_, ⟨i + 1, rfl, by omega⟩, by simp only; omega⟩
      simp only [slices_Concat_byte_byte_l3, ot (show (i : Int) < (L.length : Int) by omega), ot (show (0 : Int) ≤ (i : Int) by omega), cond_true, Int.toNat_natCast, ex, Option.bind_some, e1, e2, of_ (show ¬ (((L.take (i + 1)).flatten.length : Int)) < 0 by omega), cond_false]
    · left
      have : i = L.length := by omega
      subst this
      exact ⟨_, by simp only [slices_Concat_byte_byte_l3, of_ (show ¬ (L.length : Int) < (L.length : Int) by omega), cond_false, List.take_length], rfl⟩)
  obtain ⟨r, hr, rfl⟩ := key ((L, 0, L, (L.length : Int), 0, ()), ()) ⟨0, by simp, by omega⟩
  exact hr
theorem grow_ok (n : Nat) (h : n ≤ 70368744177664) : slices_Grow_byte_byte (((), (n : Int), ()), ()) = some (if 0 < n then .inl ((0, ()), (List.replicate n (0 : Int), ())) else .inr (((), ()), ([], ()))) := by
  have w0 : wr .i64 (0 - 0) = 0 := wr64 (by omega) (by omega)
  have w1 : wr .i64 ((n : Int) - 0) = (n : Int) := by rw [wr64 (by omega) (by omega)]; omega
  have e1 : (0 : Int) ≤ (n : Int) ∧ ((([] : List Int).length : Int) + (n : Int)) * ((1 : Nat) : Int) ≤ (room : Nat) := by rw [roomI]; simp only [List.length_nil]; omega
  have e2 : (0 : Int) ≤ (0 : Int) ∧ (0 : Int) ≤ (0 : Int) ∧ (0 : Int) ≤ ((([] : List Int) ++ List.replicate ((n : Int)).toNat (0 : Int)).length : Int) := by omega
  simp only [slices_Grow_byte_byte, w0, w1, of_ (show ¬ (n : Int) < 0 by omega), cond_false, ot (show (0 : Int) = 0 ∧ (0 : Int) = 0 from ⟨rfl, rfl⟩), cond_true, ot e1, Int.toNat_natCast, and_self, odT, List.nil_append, ot (show (0 : Int) ≤ 0 by omega), ot (show (0 : Int) ≤ 0 ∧ (0 : Int) ≤ 0 ∧ (0 : Int) ≤ ((List.replicate n (0 : Int)).length : Int) by omega)]
  by_cases hn : 0 < n
  · rw [if_pos hn, ot (show (n : Int) > 0 by omega)]; rfl
  · rw [if_neg hn, of_ (show ¬ (n : Int) > 0 by omega)]; rfl
theorem put_ok (L : List (List Int)) (h : L.flatten.length ≤ 70368744177664) (hn : L.length ≤ 70368744177664) : loopFix slices_Concat_byte_byte_l11 ((0, L, (L.length : Int), 0, ()), (List.replicate L.flatten.length (0 : Int), ())) = some ((L.flatten.length, ()), (L.flatten, ())) := by
  have key := loop_ind (b := slices_Concat_byte_byte_l11) (fun d => ∃ (i : Nat) (R : List Int), d = (((L.take i).flatten.length, L, (L.length : Int), (i : Int), ()), (R, ())) ∧ i ≤ L.length ∧ R.length = L.flatten.length ∧ R.take (L.take i).flatten.length = (L.take i).flatten) (fun r => r = ((L.flatten.length, ()), (L.flatten, ()))) (fun d => (L.length : Int).toNat - d.1.2.2.2.1.toNat) (by
    rintro d ⟨i, R, rfl, hi, hR, hT⟩
    by_cases h1 : i < L.length
    · right
      have ex := List.getElem?_eq_getElem h1
      have e1 : wr .i64 ((i : Int) + 1) = ((i + 1 : Nat) : Int) := by rw [wr64 (by omega) (by omega)]; omega
      have hf := take_flat ex
      have hle := flat_le (L := L) (i + 1)
      rw [hf, List.length_append] at hle
      have hc : 0 + (L.take i).flatten.length + L[i].length ≤ R.length := by omega
      refine ⟨(((L.take (i + 1)).flatten.length, L, (L.length : Int), ((i + 1 : Nat) : Int), ()), (R.take (0 + (L.take i).flatten.length) ++ L[i] ++ R.drop ((0 + (L.take i).flatten.length) + L[i].length), ())), ?_, ⟨i + 1, _, rfl, by omega, ?_, ?_⟩, by simp only; omega⟩
      · simp only [slices_Concat_byte_byte_l11, ot (show (i : Int) < (L.length : Int) by omega), ot (show (0 : Int) ≤ (i : Int) by omega), cond_true, Int.toNat_natCast, ex, Option.bind_some, e1, ot hc, hf, List.length_append]
      · simp only [List.length_append, List.length_take, List.length_drop]; omega
      · rw [hf, Nat.zero_add, hT, List.append_assoc]
        rw [List.length_append, ← List.append_assoc, List.take_append_of_le_length (by rw [List.length_append]; omega)]
        exact List.take_of_length_le (by rw [List.length_append]; omega)
    · left
      have : i = L.length := by omega
      subst this
      rw [List.take_length, List.take_of_length_le (by omega)] at hT
      exact ⟨_, by simp only [slices_Concat_byte_byte_l11, of_ (show ¬ (L.length : Int) < (L.length : Int) by omega), cond_false, List.take_length, hT], rfl⟩)
  obtain ⟨r, hr, rfl⟩ := key ((0, L, (L.length : Int), 0, ()), (List.replicate L.flatten.length (0 : Int), ())) ⟨0, _, rfl, by omega, List.length_replicate, by simp only [List.take_zero, List.flatten_nil, List.length_nil]⟩
  exact hr
theorem concat_some (A B : List Int) (hA : 0 < A.length) (h : A.length + B.length ≤ 1000000) : slices_Concat_byte_byte (([A, B], ()), ()) = some (.inl (((A ++ B).length, ()), (A ++ B, ()))) := by
  have hf : ([A, B] : List (List Int)).flatten = A ++ B := by simp
  have hl : ([A, B] : List (List Int)).flatten.length ≤ 70368744177664 := by rw [hf, List.length_append]; omega
  have h1 := csum_ok [A, B] hl (by simp)
  have h2 := put_ok [A, B] hl (by simp)
  have h3 := grow_ok ([A, B] : List (List Int)).flatten.length hl
  rw [if_pos (by rw [hf, List.length_append]; omega)] at h3
  rw [hf] at h1 h2 h3
  simp only [slices_Concat_byte_byte, h1, Option.bind_some, h3, h2]
theorem imin_take {β : Type} (l : List β) (n : Nat) (m : Int) (hm : m = (n : Int)) : l.take (imin (l.length : Int) m).toNat = l.take n ∧ 0 ≤ imin (l.length : Int) m ∧ imin (l.length : Int) m ≤ (l.length : Int) := by
  subst hm
  have e : imin (l.length : Int) (n : Int) = ((min l.length n : Nat) : Int) := by
    rw [imin]
    by_cases h : (n : Int) < (l.length : Int)
    · rw [ot h]; simp only [cond_true]; omega
    · rw [of_ h]; simp only [cond_false]; omega
  rw [e, Int.toNat_natCast]
  refine ⟨?_, by omega, by omega⟩
  rcases Nat.le_total l.length n with h | h
  · rw [Nat.min_eq_left h, List.take_length, List.take_of_length_le h]
  · rw [Nat.min_eq_right h]
/-! ### SHA-256, plainly -/
def M32 : Nat := 4294967296
def rotN (x n : Nat) : Nat := (x >>> n) ||| ((x <<< (32 - n)) % M32)
def sg0 (x : Nat) : Nat := (rotN x 7 ^^^ rotN x 18) ^^^ (x >>> 3)
def sg1 (x : Nat) : Nat := (rotN x 17 ^^^ rotN x 19) ^^^ (x >>> 10)
def bS0 (x : Nat) : Nat := (rotN x 2 ^^^ rotN x 13) ^^^ rotN x 22
def bS1 (x : Nat) : Nat := (rotN x 6 ^^^ rotN x 11) ^^^ rotN x 25
def chN (e f g : Nat) : Nat := (e &&& f) ^^^ ((4294967295 ^^^ e) &&& g)
def maN (a b c : Nat) : Nat := ((a &&& b) ^^^ (a &&& c)) ^^^ (b &&& c)
abbrev S8 := Nat × Nat × Nat × Nat × Nat × Nat × Nat × Nat
def lst (s : S8) : List Nat := match s with | (a, b, c, d, e, f, g, h) => [a, b, c, d, e, f, g, h]
def rx (e f g h k w : Nat) : Nat := ((((h + bS1 e) + chN e f g) + k) + w) % M32
def ry (a b c : Nat) : Nat := (bS0 a + maN a b c) % M32
def rnd (s : S8) (k w : Nat) : S8 := match s with
  | (a, b, c, d, e, f, g, h) => ((rx e f g h k w + ry a b c) % M32, a, b, c, (d + rx e f g h k w) % M32, e, f, g)
def KN : List Nat := [1116352408, 1899447441, 3049323471, 3921009573, 961987163, 1508970993, 2453635748, 2870763221, 3624381080, 310598401, 607225278, 1426881987, 1925078388, 2162078206, 2614888103, 3248222580, 3835390401, 4022224774, 264347078, 604807628, 770255983, 1249150122, 1555081692, 1996064986, 2554220882, 2821834349, 2952996808, 3210313671, 3336571891, 3584528711, 113926993, 338241895, 666307205, 773529912, 1294757372, 1396182291, 1695183700, 1986661051, 2177026350, 2456956037, 2730485921, 2820302411, 3259730800, 3345764771, 3516065817, 3600352804, 4094571909, 275423344, 430227734, 506948616, 659060556, 883997877, 958139571, 1322822218, 1537002063, 1747873779, 1955562222, 2024104815, 2227730452, 2361852424, 2428436474, 2756734187, 3204031479, 3329325298]
def H0 : S8 := (1779033703, 3144134277, 1013904242, 2773480762, 1359893119, 2600822924, 528734635, 1541459225)
def wordN (a b c d : Nat) : Nat := ((((a <<< 24) % M32) ||| ((b <<< 16) % M32)) ||| ((c <<< 8) % M32)) ||| d
def wd (b : List Nat) (i : Nat) : Nat := wordN (b.getD (4 * i) 0) (b.getD (4 * i + 1) 0) (b.getD (4 * i + 2) 0) (b.getD (4 * i + 3) 0)
def wnext (W : List Nat) : Nat := (((W.getD (W.length - 16) 0 + sg0 (W.getD (W.length - 15) 0)) + W.getD (W.length - 7) 0) + sg1 (W.getD (W.length - 2) 0)) % M32
def ext : Nat → List Nat → List Nat
  | 0, W => W
  | n + 1, W => ext n (W ++ [wnext W])
def sched (b : List Nat) : List Nat := ext 48 ((List.range 16).map (wd b))
def rds (W : List Nat) : Nat → Nat → S8 → S8
  | 0, _, s => s
  | n + 1, i, s => rds W n (i + 1) (rnd s (KN.getD i 0) (W.getD i 0))
def addS (s t : S8) : S8 := match s, t with
  | (a, b, c, d, e, f, g, h), (a', b', c', d', e', f', g', h') => ((a + a') % M32, (b + b') % M32, (c + c') % M32, (d + d') % M32, (e + e') % M32, (f + f') % M32, (g + g') % M32, (h + h') % M32)
def comp (s : S8) (b : List Nat) : S8 := addS s (rds (sched b) 64 0 s)
def runF : Nat → S8 → List Nat → S8 × List Nat
  | 0, s, m => (s, m)
  | n + 1, s, m => if 64 ≤ m.length then runF n (comp s (m.take 64)) (m.drop 64) else (s, m)
def run (s : S8) (m : List Nat) : S8 × List Nat := runF m.length s m
def zn (n : Nat) : Nat := (120 - n % 64) % 64
def be4 (v : Nat) : List Nat := [(v >>> 24) % 256, (v >>> 16) % 256, (v >>> 8) % 256, v % 256]
def be64 (v : Nat) : List Nat := [0, 0, 0, 0] ++ be4 v
def pad (n : Nat) : List Nat := [128] ++ (List.replicate (zn (n + 1)) 0 ++ be64 (8 * n))
def outN (s : S8) : List Nat := (lst s).flatMap be4
def shaN (w : List Nat) : List Nat := outN (run H0 (w ++ pad w.length)).1
/-! ### words of 32 bits -/
def ci (l : List Nat) : List Int := l.map (fun n : Nat => (n : Int))
theorem ci_len (l : List Nat) : (ci l).length = l.length := by simp [ci]
theorem ci_app (a b : List Nat) : ci (a ++ b) = ci a ++ ci b := by simp [ci]
theorem ci_take (a : List Nat) (n : Nat) : (ci a).take n = ci (a.take n) := by simp [ci, List.map_take]
theorem ci_drop (a : List Nat) (n : Nat) : (ci a).drop n = ci (a.drop n) := by simp [ci, List.map_drop]
theorem ci_get {b : List Nat} {j : Nat} (h : j < b.length) : (ci b)[j]? = some ((b.getD j 0 : Nat) : Int) := by simp [ci, List.getD_eq_getElem?_getD, List.getElem?_eq_getElem h]
theorem ci_inj {a b : List Nat} (h : ci a = ci b) : a = b := by
  have key : ∀ a b : List Nat, ci a = ci b → a = b := by
    intro a
    induction a with
    | nil => intro b h; cases b with | nil => rfl | cons y b => simp [ci] at h
    | cons x a ih =>
      intro b h
      cases b with
      | nil => simp [ci] at h
      | cons y b =>
        simp only [ci, List.map_cons, List.cons.injEq] at h
        rw [ih b h.2, show x = y by omega]
  exact key a b h
theorem wr32 (n : Nat) : wr .u32 (n : Int) = ((n % M32 : Nat) : Int) := by rw [wr_eq, IntKind.wrap_u32]; simp only [M32]; omega
theorem wr32_id {n : Nat} (h : n < M32) : wr .u32 (n : Int) = (n : Int) := by rw [wr32, Nat.mod_eq_of_lt h]
theorem wr_add (a b : Int) : wr .u32 (wr .u32 a + b) = wr .u32 (a + b) := by simp only [wr_eq, IntKind.wrap_u32]; omega
theorem or_lt {x y : Nat} (hx : x < M32) (hy : y < M32) : x ||| y < M32 := Nat.or_lt_two_pow (n := 32) hx hy
theorem xor_lt {x y : Nat} (hx : x < M32) (hy : y < M32) : x ^^^ y < M32 := Nat.xor_lt_two_pow (n := 32) hx hy
theorem and_lt {x : Nat} (y : Nat) (hx : x < M32) : x &&& y < M32 := Nat.lt_of_le_of_lt Nat.and_le_left hx
theorem sr_lt {x : Nat} (n : Nat) (hx : x < M32) : x >>> n < M32 := Nat.lt_of_le_of_lt (Nat.shiftRight_le x n) hx
theorem mod_lt (x : Nat) : x % M32 < M32 := Nat.mod_lt _ (by decide)
theorem bv32 {x : Nat} (hx : x < M32) : (BitVec.ofInt 32 (x : Int)).toNat = x := by
  rw [BitVec.toNat_ofInt]
  simp only [M32] at hx
  omega
theorem bor32 {x y : Nat} (hx : x < M32) (hy : y < M32) : bor .u32 (x : Int) (y : Int) = ((x ||| y : Nat) : Int) := by
  have : (BitVec.ofInt IntKind.u32.bits (x : Int) ||| BitVec.ofInt IntKind.u32.bits (y : Int)).toNat = x ||| y := by
    show (BitVec.ofInt 32 (x : Int) ||| BitVec.ofInt 32 (y : Int)).toNat = x ||| y
    rw [BitVec.toNat_or, bv32 hx, bv32 hy]
  rw [bor, this, wr32_id (or_lt hx hy)]
theorem bxor32 {x y : Nat} (hx : x < M32) (hy : y < M32) : bxor .u32 (x : Int) (y : Int) = ((x ^^^ y : Nat) : Int) := by
  have : (BitVec.ofInt IntKind.u32.bits (x : Int) ^^^ BitVec.ofInt IntKind.u32.bits (y : Int)).toNat = x ^^^ y := by
    show (BitVec.ofInt 32 (x : Int) ^^^ BitVec.ofInt 32 (y : Int)).toNat = x ^^^ y
    rw [BitVec.toNat_xor, bv32 hx, bv32 hy]
  rw [bxor, this, wr32_id (xor_lt hx hy)]
theorem band32 {x y : Nat} (hx : x < M32) (hy : y < M32) : band .u32 (x : Int) (y : Int) = ((x &&& y : Nat) : Int) := by
  have : (BitVec.ofInt IntKind.u32.bits (x : Int) &&& BitVec.ofInt IntKind.u32.bits (y : Int)).toNat = x &&& y := by
    show (BitVec.ofInt 32 (x : Int) &&& BitVec.ofInt 32 (y : Int)).toNat = x &&& y
    rw [BitVec.toNat_and, bv32 hx, bv32 hy]
  rw [band, this, wr32_id (and_lt y hx)]
theorem shr_nat (k : IntKind) (x n : Nat) (h : n ≤ k.bits) : shr k (x : Int) (n : Int) = ((x >>> n : Nat) : Int) := by
  rw [shr_eq, Int.toNat_natCast, Nat.min_eq_left h, Int.fdiv_eq_ediv_of_nonneg _ (by exact Int.le_of_lt (Int.pow_pos (by omega))), Nat.shiftRight_eq_div_pow]
  norm_cast
theorem shr32 (x n : Nat) (h : n ≤ 32) : shr .u32 (x : Int) (n : Int) = ((x >>> n : Nat) : Int) := shr_nat .u32 x n h
theorem shl32 (x n : Nat) (h : n ≤ 32) : shl .u32 (x : Int) (n : Int) = (((x <<< n) % M32 : Nat) : Int) := by
  rw [shl, Int.toNat_natCast, show min n IntKind.u32.bits = n from Nat.min_eq_left h, ← wr32, Nat.shiftLeft_eq]
  norm_cast
theorem ones32 : ones .u32 = ((4294967295 : Nat) : Int) := rfl
theorem rot_lt {x : Nat} (n : Nat) (hx : x < M32) : rotN x n < M32 := or_lt (sr_lt n hx) (mod_lt _)
theorem right_ok {x : Nat} (n : Nat) (hx : x < M32) (h1 : 1 ≤ n) (h2 : n ≤ 31) : sha_right (((x : Int), (n : Int), ()), ()) = some ((((rotN x n : Nat) : Int), ()), ()) := by
  have e1 : wr .i64 (0 - (n : Int)) = -(n : Int) := by rw [wr64 (by omega) (by omega)]; omega
  have e2 : wr .u64 (-(n : Int)) = ((18446744073709551616 - n : Nat) : Int) := by rw [wr_eq, IntKind.wrap_u64]; omega
  have e3 : band .u64 ((18446744073709551616 - n : Nat) : Int) 31 = ((32 - n : Nat) : Int) := by
    have : (BitVec.ofInt IntKind.u64.bits ((18446744073709551616 - n : Nat) : Int) &&& BitVec.ofInt IntKind.u64.bits 31).toNat = 32 - n := by
      show (BitVec.ofInt 64 ((18446744073709551616 - n : Nat) : Int) &&& BitVec.ofInt 64 31).toNat = 32 - n
      rw [BitVec.toNat_and, BitVec.toNat_ofInt, BitVec.toNat_ofInt]
      have g1 : ((((18446744073709551616 - n : Nat) : Int)) % ((2 ^ 64 : Nat) : Int)).toNat = 18446744073709551616 - n := by omega
      have g2 : ((31 : Int) % ((2 ^ 64 : Nat) : Int)).toNat = 2 ^ 5 - 1 := by decide
      rw [g1, g2, Nat.and_two_pow_sub_one_eq_mod]
      omega
    rw [band, this, wr_eq, IntKind.wrap_u64]
    omega
  have e4 : wr .u64 (32 - ((32 - n : Nat) : Int)) = ((n : Nat) : Int) := by rw [wr_eq, IntKind.wrap_u64]; omega
  have e5 : bor .u32 (((x <<< (32 - n)) % M32 : Nat) : Int) ((x >>> n : Nat) : Int) = ((rotN x n : Nat) : Int) := by
    rw [bor32 (mod_lt _) (sr_lt n hx), Nat.or_comm]; rfl
  simp only [sha_right, math_bits_RotateLeft32, e1, e2, e3, of_ (show ¬ ((32 - n : Nat) : Int) < 0 by omega), cond_false, e4, of_ (show ¬ ((n : Nat) : Int) < 0 by omega), Option.bind_some]
  rw [shl32 x (32 - n) (by omega), shr32 x n (by omega), e5]
theorem sg0_lt {x : Nat} (hx : x < M32) : sg0 x < M32 := xor_lt (xor_lt (rot_lt _ hx) (rot_lt _ hx)) (sr_lt _ hx)
theorem sg1_lt {x : Nat} (hx : x < M32) : sg1 x < M32 := xor_lt (xor_lt (rot_lt _ hx) (rot_lt _ hx)) (sr_lt _ hx)
theorem e_sg0 {x : Nat} (hx : x < M32) : bxor .u32 (bxor .u32 ((rotN x 7 : Nat) : Int) ((rotN x 18 : Nat) : Int)) (shr .u32 (x : Int) 3) = ((sg0 x : Nat) : Int) := by
  have e : shr .u32 (x : Int) 3 = ((x >>> 3 : Nat) : Int) := shr32 x 3 (by omega)
  rw [e, bxor32 (rot_lt _ hx) (rot_lt _ hx), bxor32 (xor_lt (rot_lt _ hx) (rot_lt _ hx)) (sr_lt _ hx)]; rfl
theorem e_sg1 {x : Nat} (hx : x < M32) : bxor .u32 (bxor .u32 ((rotN x 17 : Nat) : Int) ((rotN x 19 : Nat) : Int)) (shr .u32 (x : Int) 10) = ((sg1 x : Nat) : Int) := by
  have e : shr .u32 (x : Int) 10 = ((x >>> 10 : Nat) : Int) := shr32 x 10 (by omega)
  rw [e, bxor32 (rot_lt _ hx) (rot_lt _ hx), bxor32 (xor_lt (rot_lt _ hx) (rot_lt _ hx)) (sr_lt _ hx)]; rfl
theorem e_bS0 {x : Nat} (hx : x < M32) : bxor .u32 (bxor .u32 ((rotN x 2 : Nat) : Int) ((rotN x 13 : Nat) : Int)) ((rotN x 22 : Nat) : Int) = ((bS0 x : Nat) : Int) := by
  rw [bxor32 (rot_lt _ hx) (rot_lt _ hx), bxor32 (xor_lt (rot_lt _ hx) (rot_lt _ hx)) (rot_lt _ hx)]; rfl
theorem e_bS1 {x : Nat} (hx : x < M32) : bxor .u32 (bxor .u32 ((rotN x 6 : Nat) : Int) ((rotN x 11 : Nat) : Int)) ((rotN x 25 : Nat) : Int) = ((bS1 x : Nat) : Int) := by
  rw [bxor32 (rot_lt _ hx) (rot_lt _ hx), bxor32 (xor_lt (rot_lt _ hx) (rot_lt _ hx)) (rot_lt _ hx)]; rfl
theorem e_ch {e f g : Nat} (he : e < M32) (hf : f < M32) (hg : g < M32) : bxor .u32 (band .u32 (e : Int) (f : Int)) (band .u32 (bxor .u32 (ones .u32) (e : Int)) (g : Int)) = ((chN e f g : Nat) : Int) := by
  have ho : (4294967295 : Nat) < M32 := by decide
  rw [ones32, band32 he hf, bxor32 ho he, band32 (xor_lt ho he) hg, bxor32 (and_lt _ he) (and_lt _ (xor_lt ho he))]; rfl
theorem e_ma {a b c : Nat} (ha : a < M32) (hb : b < M32) (hc : c < M32) : bxor .u32 (bxor .u32 (band .u32 (a : Int) (b : Int)) (band .u32 (a : Int) (c : Int))) (band .u32 (b : Int) (c : Int)) = ((maN a b c : Nat) : Int) := by
  rw [band32 ha hb, band32 ha hc, band32 hb hc, bxor32 (and_lt _ ha) (and_lt _ ha), bxor32 (xor_lt (and_lt _ ha) (and_lt _ ha)) (and_lt _ hb)]; rfl
theorem e_rx (e f g h k w : Nat) : wr .u32 (wr .u32 (wr .u32 (wr .u32 ((h : Int) + (bS1 e : Int)) + (chN e f g : Int)) + (k : Int)) + (w : Int)) = ((rx e f g h k w : Nat) : Int) := by
  simp only [wr_add]
  rw [show (h : Int) + (bS1 e : Int) + (chN e f g : Int) + (k : Int) + (w : Int) = ((h + bS1 e + chN e f g + k + w : Nat) : Int) by omega, wr32]; rfl
theorem e_ry (a b c : Nat) : wr .u32 ((bS0 a : Int) + (maN a b c : Int)) = ((ry a b c : Nat) : Int) := by
  rw [show (bS0 a : Int) + (maN a b c : Int) = ((bS0 a + maN a b c : Nat) : Int) by omega, wr32]; rfl
theorem e_add (a b : Nat) : wr .u32 ((a : Int) + (b : Int)) = (((a + b) % M32 : Nat) : Int) := by
  rw [show (a : Int) + (b : Int) = ((a + b : Nat) : Int) by omega, wr32]
theorem b_lt {a : Nat} (h : a < 256) : a < M32 := by simp only [M32]; omega
theorem e_word {a b c d : Nat} (ha : a < 256) (hb : b < 256) (hc : c < 256) (hd : d < 256) : bor .u32 (bor .u32 (bor .u32 (shl .u32 (wr .u32 (a : Int)) 24) (shl .u32 (wr .u32 (b : Int)) 16)) (shl .u32 (wr .u32 (c : Int)) 8)) (wr .u32 (d : Int)) = ((wordN a b c d : Nat) : Int) := by
  have e1 : shl .u32 (a : Int) 24 = (((a <<< 24) % M32 : Nat) : Int) := shl32 a 24 (by omega)
  have e2 : shl .u32 (b : Int) 16 = (((b <<< 16) % M32 : Nat) : Int) := shl32 b 16 (by omega)
  have e3 : shl .u32 (c : Int) 8 = (((c <<< 8) % M32 : Nat) : Int) := shl32 c 8 (by omega)
  rw [wr32_id (b_lt ha), wr32_id (b_lt hb), wr32_id (b_lt hc), wr32_id (b_lt hd), e1, e2, e3, bor32 (mod_lt _) (mod_lt _), bor32 (or_lt (mod_lt _) (mod_lt _)) (mod_lt _), bor32 (or_lt (or_lt (mod_lt _) (mod_lt _)) (mod_lt _)) (b_lt hd)]; rfl
theorem word_lt {a b c d : Nat} (hd : d < 256) : wordN a b c d < M32 := or_lt (or_lt (or_lt (mod_lt _) (mod_lt _)) (mod_lt _)) (b_lt hd)
/-! ### arrays that are filled from the front -/
theorem fill_get {W : List Nat} {R : List Int} {j : Nat} (h : j < W.length) : (ci W ++ R)[j]? = some ((W.getD j 0 : Nat) : Int) := by
  rw [List.getElem?_append_left (by rw [ci_len]; exact h), ci_get h]
theorem fill_at (W : List Nat) (m : Nat) : (ci W ++ List.replicate (m + 1) (0 : Int))[W.length]? = some 0 := by
  rw [List.getElem?_append_right (by rw [ci_len]; exact Nat.le_refl _), ci_len, Nat.sub_self]; rfl
theorem fill_set (W : List Nat) (m x : Nat) : (ci W ++ List.replicate (m + 1) (0 : Int)).set W.length (x : Int) = ci (W ++ [x]) ++ List.replicate m (0 : Int) := by
  rw [List.set_append_right _ _ (by rw [ci_len]; exact Nat.le_refl _), ci_len, Nat.sub_self, List.replicate_succ, List.set_cons_zero, ci_app, List.append_assoc]; rfl
/-! ### a block -/
theorem sched0_lt {b : List Nat} (hb : ∀ x ∈ b, x < 256) (i : Nat) : ∀ x ∈ (List.range i).map (wd b), x < M32 := by
  intro x hx
  obtain ⟨j, _, rfl⟩ := List.mem_map.1 hx
  refine word_lt ?_
  rw [List.getD_eq_getElem?_getD]
  cases h : b[4 * j + 3]? with
  | none => simp
  | some y => exact hb y (List.mem_of_getElem? h)
theorem getD_lt {b : List Nat} {n : Nat} (hn : 0 < n) (hb : ∀ x ∈ b, x < n) (i : Nat) : b.getD i 0 < n := by
  rw [List.getD_eq_getElem?_getD]
  cases h : b[i]? with
  | none => exact hn
  | some y => exact hb y (List.mem_of_getElem? h)
theorem m32_pos : 0 < M32 := by decide
theorem spread3 (b : List Nat) (hb : ∀ x ∈ b, x < 256) (hl : b.length = 64) (X : List Int) : loopFix sha_spread_l3 ((ci b, (), (), 0, ()), (X, List.replicate 64 (0 : Int), ())) = some (((), (), ()), (X, ci ((List.range 16).map (wd b)) ++ List.replicate 48 (0 : Int), ())) := by
  have key := loop_ind (b := sha_spread_l3) (fun d => ∃ i : Nat, d = ((ci b, (), (), (i : Int), ()), (X, ci ((List.range i).map (wd b)) ++ List.replicate (64 - i) (0 : Int), ())) ∧ i ≤ 16) (fun r => r = (((), (), ()), (X, ci ((List.range 16).map (wd b)) ++ List.replicate 48 (0 : Int), ()))) (fun d => 16 - d.1.2.2.2.1.toNat) (by
    rintro d ⟨i, rfl, hi⟩
    by_cases h : i < 16
    · right
      have e1 : wr .i64 ((i : Int) + 1) = ((i + 1 : Nat) : Int) := by rw [wr64 (by omega) (by omega)]; omega
      have e2 : wr .i64 (4 * (i : Int)) = ((4 * i : Nat) : Int) := by rw [wr64 (by omega) (by omega)]; omega
      have e3 : wr .i64 (((4 * i : Nat) : Int) + 1) = ((4 * i + 1 : Nat) : Int) := by rw [wr64 (by omega) (by omega)]; omega
      have e4 : wr .i64 (((4 * i : Nat) : Int) + 2) = ((4 * i + 2 : Nat) : Int) := by rw [wr64 (by omega) (by omega)]; omega
      have e5 : wr .i64 (((4 * i : Nat) : Int) + 3) = ((4 * i + 3 : Nat) : Int) := by rw [wr64 (by omega) (by omega)]; omega
      have g : ∀ j, b.getD j 0 < 256 := getD_lt (by omega) hb
      have hw := e_word (g (4 * i)) (g (4 * i + 1)) (g (4 * i + 2)) (g (4 * i + 3))
      have hr : 64 - i = (64 - (i + 1)) + 1 := by omega
      have hlen : ((List.range i).map (wd b)).length = i := by simp
      have s1 := fill_at ((List.range i).map (wd b)) (64 - (i + 1))
      have s2 := fill_set ((List.range i).map (wd b)) (64 - (i + 1)) (wd b i)
      rw [hlen] at s1 s2
      refine ⟨((ci b, (), (), ((i + 1 : Nat) : Int), ()), (X, ci ((List.range (i + 1)).map (wd b)) ++ List.replicate (64 - (i + 1)) (0 : Int), ())), ?_, ⟨i + 1, rfl, by omega⟩, by simp only; omega⟩
      rw [List.range_succ, List.map_append]
      rw [hr]
      simp only [sha_spread_l3, ot (show (i : Int) < 16 by omega), cond_true, e2, e3, e4, e5, ot (show (0 : Int) ≤ ((4 * i : Nat) : Int) by omega), ot (show (0 : Int) ≤ ((4 * i + 1 : Nat) : Int) by omega), ot (show (0 : Int) ≤ ((4 * i + 2 : Nat) : Int) by omega), ot (show (0 : Int) ≤ ((4 * i + 3 : Nat) : Int) by omega), Int.toNat_natCast, ci_get (show 4 * i < b.length by omega), ci_get (show 4 * i + 1 < b.length by omega), ci_get (show 4 * i + 2 < b.length by omega), ci_get (show 4 * i + 3 < b.length by omega), Option.bind_some,
        of_ (show ¬ (24 : Int) < 0 by omega), of_ (show ¬ (16 : Int) < 0 by omega), of_ (show ¬ (8 : Int) < 0 by omega), cond_false, ot (show (0 : Int) ≤ (i : Int) ∧ (i : Int) < ((64 : Nat) : Int) by omega), s1, hw, e1]
      rw [show ((wordN (b.getD (4 * i) 0) (b.getD (4 * i + 1) 0) (b.getD (4 * i + 2) 0) (b.getD (4 * i + 3) 0) : Nat) : Int) = ((wd b i : Nat) : Int) from rfl, s2]
      rfl
    · left
      have : i = 16 := by omega
      subst this
      exact ⟨_, by simp only [sha_spread_l3, of_ (show ¬ ((16 : Nat) : Int) < 16 by omega), cond_false], rfl⟩)
  obtain ⟨r, hr, rfl⟩ := key ((ci b, (), (), 0, ()), (X, List.replicate 64 (0 : Int), ())) ⟨0, rfl, by omega⟩
  exact hr
theorem ext_len : ∀ (n : Nat) (W : List Nat), (ext n W).length = W.length + n
  | 0, W => rfl
  | n + 1, W => by rw [ext, ext_len n]; simp; omega
theorem ext_lt : ∀ (n : Nat) (W : List Nat), (∀ x ∈ W, x < M32) → ∀ x ∈ ext n W, x < M32
  | 0, W, h => h
  | n + 1, W, h => by
    rw [ext]
    refine ext_lt n _ fun x hx => ?_
    rcases List.mem_append.1 hx with hx | hx
    · exact h x hx
    · rw [List.mem_singleton] at hx; subst hx; exact mod_lt _
theorem sched_len (b : List Nat) : (sched b).length = 64 := by rw [sched, ext_len]; simp
theorem sched_lt {b : List Nat} (hb : ∀ x ∈ b, x < 256) : ∀ x ∈ sched b, x < M32 := ext_lt _ _ (sched0_lt hb 16)
theorem next_ok (a b c d : Nat) : wr .u32 (wr .u32 (wr .u32 ((a : Int) + ((sg0 b : Nat) : Int)) + (c : Int)) + ((sg1 d : Nat) : Int)) = ((((a + sg0 b) + c + sg1 d) % M32 : Nat) : Int) := by
  simp only [wr_add]
  rw [show (a : Int) + ((sg0 b : Nat) : Int) + (c : Int) + ((sg1 d : Nat) : Int) = ((a + sg0 b + c + sg1 d : Nat) : Int) by omega, wr32]
theorem spread8 (W0 : List Nat) (h0 : W0.length = 16) (hlt : ∀ x ∈ W0, x < M32) (X : List Int) : loopFix sha_spread_l8 (((), (), 16, ()), (X, ci W0 ++ List.replicate 48 (0 : Int), ())) = some (((), (), ()), (X, ci (ext 48 W0), ())) := by
  have key := loop_ind (b := sha_spread_l8) (fun d => ∃ (i : Nat) (W : List Nat), d = (((), (), (i : Int), ()), (X, ci W ++ List.replicate (64 - i) (0 : Int), ())) ∧ 16 ≤ i ∧ i ≤ 64 ∧ W.length = i ∧ (∀ x ∈ W, x < M32) ∧ ext (64 - i) W = ext 48 W0) (fun r => r = (((), (), ()), (X, ci (ext 48 W0), ()))) (fun d => 64 - d.1.2.2.1.toNat) (by
    rintro d ⟨i, W, rfl, hi0, hi, hW, hlt, hext⟩
    by_cases h : i < 64
    · right
      have e1 : wr .i64 ((i : Int) + 1) = ((i + 1 : Nat) : Int) := by rw [wr64 (by omega) (by omega)]; omega
      have e2 : wr .i64 ((i : Int) - 15) = ((i - 15 : Nat) : Int) := by rw [wr64 (by omega) (by omega)]; omega
      have e3 : wr .i64 ((i : Int) - 2) = ((i - 2 : Nat) : Int) := by rw [wr64 (by omega) (by omega)]; omega
      have e4 : wr .i64 ((i : Int) - 16) = ((i - 16 : Nat) : Int) := by rw [wr64 (by omega) (by omega)]; omega
      have e5 : wr .i64 ((i : Int) - 7) = ((i - 7 : Nat) : Int) := by rw [wr64 (by omega) (by omega)]; omega
      have g : ∀ j, W.getD j 0 < M32 := getD_lt m32_pos hlt
      have hr : 64 - i = (64 - (i + 1)) + 1 := by omega
      have s1 := fill_at W (64 - (i + 1))
      have s2 := fill_set W (64 - (i + 1)) (wnext W)
      rw [hW] at s1 s2
      have r7 := right_ok 7 (g (i - 15)) (by omega) (by omega)
      have r18 := right_ok 18 (g (i - 15)) (by omega) (by omega)
      have r17 := right_ok 17 (g (i - 2)) (by omega) (by omega)
      have r19 := right_ok 19 (g (i - 2)) (by omega) (by omega)
      have hn : wnext W = ((W.getD (i - 16) 0 + sg0 (W.getD (i - 15) 0)) + W.getD (i - 7) 0 + sg1 (W.getD (i - 2) 0)) % M32 := by rw [wnext, hW]
      refine ⟨(((), (), ((i + 1 : Nat) : Int), ()), (X, ci (W ++ [wnext W]) ++ List.replicate (64 - (i + 1)) (0 : Int), ())), ?_, ⟨i + 1, _, rfl, by omega, by omega, by simp [hW], fun x hx => ?_, ?_⟩, by simp only; omega⟩
      · rw [hr]
        simp only [sha_spread_l8, ot (show (i : Int) < 64 by omega), cond_true, e2, e3, e4, e5, ot (show (0 : Int) ≤ ((i - 15 : Nat) : Int) ∧ ((i - 15 : Nat) : Int) < ((64 : Nat) : Int) by omega), ot (show (0 : Int) ≤ ((i - 2 : Nat) : Int) ∧ ((i - 2 : Nat) : Int) < ((64 : Nat) : Int) by omega), ot (show (0 : Int) ≤ ((i - 16 : Nat) : Int) ∧ ((i - 16 : Nat) : Int) < ((64 : Nat) : Int) by omega), ot (show (0 : Int) ≤ ((i - 7 : Nat) : Int) ∧ ((i - 7 : Nat) : Int) < ((64 : Nat) : Int) by omega), Int.toNat_natCast, fill_get (show i - 15 < W.length by omega), fill_get (show i - 2 < W.length by omega), fill_get (show i - 16 < W.length by omega), fill_get (show i - 7 < W.length by omega), Option.bind_some]
        have r7' : sha_right ((((W.getD (i - 15) 0 : Nat) : Int), 7, ()), ()) = _ := r7
        have r18' : sha_right ((((W.getD (i - 15) 0 : Nat) : Int), 18, ()), ()) = _ := r18
        have r17' : sha_right ((((W.getD (i - 2) 0 : Nat) : Int), 17, ()), ()) = _ := r17
        have r19' : sha_right ((((W.getD (i - 2) 0 : Nat) : Int), 19, ()), ()) = _ := r19
        simp only [r7', r18', r17', r19', Option.bind_some, of_ (show ¬ (3 : Int) < 0 by omega), of_ (show ¬ (10 : Int) < 0 by omega), cond_false, e_sg0 (g (i - 15)), e_sg1 (g (i - 2)), next_ok, ot (show (0 : Int) ≤ (i : Int) ∧ (i : Int) < ((64 : Nat) : Int) by omega), cond_true, s1, e1, ← hn, s2]
      · rcases List.mem_append.1 hx with hx | hx
        · exact hlt x hx
        · rw [List.mem_singleton] at hx; subst hx; exact mod_lt _
      · rw [← hext, hr]; rfl
    · left
      have : i = 64 := by omega
      subst this
      have hW' : W = ext 48 W0 := hext
      refine ⟨_, by simp only [sha_spread_l8, of_ (show ¬ ((64 : Nat) : Int) < 64 by omega), cond_false]; rfl, ?_⟩
      rw [← hW']; simp)
  obtain ⟨r, hr, rfl⟩ := key (((), (), 16, ()), (X, ci W0 ++ List.replicate 48 (0 : Int), ())) ⟨16, W0, rfl, by omega, by omega, h0, hlt, rfl⟩
  exact hr
theorem spread_ok (b : List Nat) (hb : ∀ x ∈ b, x < 256) (hl : b.length = 64) : sha_spread ((ci b, ()), ()) = some ((ci (sched b), ()), ()) := by
  simp only [sha_spread, spread3 b hb hl, Option.bind_some, spread8 _ (by simp) (sched0_lt hb 16)]
  rfl
def P8 (s : S8) : Prop := ∀ x ∈ lst s, x < M32
theorem P8.rnd {s : S8} (h : P8 s) (k w : Nat) : P8 (rnd s k w) := by
  obtain ⟨a, b, c, d, e, f, g, i⟩ := s
  simp only [P8, lst, AM.rnd, List.forall_mem_cons] at h ⊢
  obtain ⟨h1, h2, h3, h4, h5, h6, h7, h8, _⟩ := h
  exact ⟨mod_lt _, h1, h2, h3, mod_lt _, h5, h6, h7, by simp⟩
theorem P8.addS (s t : S8) : P8 (addS s t) := by
  obtain ⟨a, b, c, d, e, f, g, i⟩ := s
  obtain ⟨a', b', c', d', e', f', g', i'⟩ := t
  simp only [P8, lst, AM.addS, List.forall_mem_cons]
  exact ⟨mod_lt _, mod_lt _, mod_lt _, mod_lt _, mod_lt _, mod_lt _, mod_lt _, mod_lt _, by simp⟩
theorem KN_len : KN.length = 64 := rfl
theorem rep8 : List.replicate 8 (0 : Int) = [0, 0, 0, 0, 0, 0, 0, 0] := rfl
theorem rounds_ok (W : List Nat) (hW : W.length = 64) (hlt : ∀ x ∈ W, x < M32) (s X : List Int) (S : S8) (hS : P8 S) : loopFix sha_mixed_l4 ((ci KN, (), (), (), (), 0, ()), (s, X, ci W, ci (lst S), ())) = some (((), (), (), ()), (s, X, ci W, ci (lst (rds W 64 0 S)), ())) := by
  have key := loop_ind (b := sha_mixed_l4) (fun d => ∃ (i : Nat) (T : S8), d = ((ci KN, (), (), (), (), (i : Int), ()), (s, X, ci W, ci (lst T), ())) ∧ i ≤ 64 ∧ P8 T ∧ rds W (64 - i) i T = rds W 64 0 S) (fun r => r = (((), (), (), ()), (s, X, ci W, ci (lst (rds W 64 0 S)), ()))) (fun d => 64 - d.1.2.2.2.2.2.1.toNat) (by
    rintro d ⟨i, T, rfl, hi, hT, hr⟩
    by_cases h : i < 64
    · right
      have e1 : wr .i64 ((i : Int) + 1) = ((i + 1 : Nat) : Int) := by rw [wr64 (by omega) (by omega)]; omega
      refine ⟨((ci KN, (), (), (), (), ((i + 1 : Nat) : Int), ()), (s, X, ci W, ci (lst (rnd T (KN.getD i 0) (W.getD i 0))), ())), ?_, ⟨i + 1, _, rfl, by omega, hT.rnd _ _, ?_⟩, by simp only; omega⟩
      · obtain ⟨a, b, c, d, e, f, g, k⟩ := T
        simp only [P8, lst, List.forall_mem_cons] at hT
        obtain ⟨ha, hb, hc, hd, he, hf, hg, hk, _⟩ := hT
        have r6 : sha_right (((e : Int), 6, ()), ()) = _ := right_ok 6 he (by omega) (by omega)
        have r11 : sha_right (((e : Int), 11, ()), ()) = _ := right_ok 11 he (by omega) (by omega)
        have r25 : sha_right (((e : Int), 25, ()), ()) = _ := right_ok 25 he (by omega) (by omega)
        have r2 : sha_right (((a : Int), 2, ()), ()) = _ := right_ok 2 ha (by omega) (by omega)
        have r13 : sha_right (((a : Int), 13, ()), ()) = _ := right_ok 13 ha (by omega) (by omega)
        have r22 : sha_right (((a : Int), 22, ()), ()) = _ := right_ok 22 ha (by omega) (by omega)
        have ht : ci (lst (a, b, c, d, e, f, g, k)) = [(a : Int), (b : Int), (c : Int), (d : Int), (e : Int), (f : Int), (g : Int), (k : Int)] := rfl
        have hn : ci (lst (rnd (a, b, c, d, e, f, g, k) (KN.getD i 0) (W.getD i 0))) = [(((rx e f g k (KN.getD i 0) (W.getD i 0) + ry a b c) % M32 : Nat) : Int), (a : Int), (b : Int), (c : Int), (((d + rx e f g k (KN.getD i 0) (W.getD i 0)) % M32 : Nat) : Int), (e : Int), (f : Int), (g : Int)] := rfl
        rw [ht, hn]
        simp only [sha_mixed_l4, ot (show (i : Int) < 64 by omega), cond_true, ot (show (0 : Int) ≤ 0 ∧ (0 : Int) < ((8 : Nat) : Int) by omega), ot (show (0 : Int) ≤ 1 ∧ (1 : Int) < ((8 : Nat) : Int) by omega), ot (show (0 : Int) ≤ 2 ∧ (2 : Int) < ((8 : Nat) : Int) by omega), ot (show (0 : Int) ≤ 3 ∧ (3 : Int) < ((8 : Nat) : Int) by omega), ot (show (0 : Int) ≤ 4 ∧ (4 : Int) < ((8 : Nat) : Int) by omega), ot (show (0 : Int) ≤ 5 ∧ (5 : Int) < ((8 : Nat) : Int) by omega), ot (show (0 : Int) ≤ 6 ∧ (6 : Int) < ((8 : Nat) : Int) by omega), ot (show (0 : Int) ≤ 7 ∧ (7 : Int) < ((8 : Nat) : Int) by omega),
          show (0 : Int).toNat = 0 from rfl, show (1 : Int).toNat = 1 from rfl, show (2 : Int).toNat = 2 from rfl, show (3 : Int).toNat = 3 from rfl, show (4 : Int).toNat = 4 from rfl, show (5 : Int).toNat = 5 from rfl, show (6 : Int).toNat = 6 from rfl, show (7 : Int).toNat = 7 from rfl, List.getElem?_cons_zero, List.getElem?_cons_succ, Option.bind_some, r6, r11, r25, r2, r13, r22, ot (show (0 : Int) ≤ (i : Int) ∧ (i : Int) < ((64 : Nat) : Int) by omega), Int.toNat_natCast, ci_get (show i < KN.length by rw [KN_len]; exact h), ci_get (show i < W.length by omega), rep8, List.set_cons_zero, List.set_cons_succ,
          e_bS1 he, e_ch he hf hg, e_rx, e_bS0 ha, e_ma ha hb hc, e_ry, e1]
        simp only [e_add]
      · rw [← hr, show 64 - i = (64 - (i + 1)) + 1 by omega]; rfl
    · left
      have : i = 64 := by omega
      subst this
      have hr' : T = rds W 64 0 S := hr
      exact ⟨_, by simp only [sha_mixed_l4, of_ (show ¬ ((64 : Nat) : Int) < 64 by omega), cond_false]; rfl, by rw [← hr']⟩)
  obtain ⟨r, hr, rfl⟩ := key ((ci KN, (), (), (), (), 0, ()), (s, X, ci W, ci (lst S), ())) ⟨0, S, rfl, by omega, hS, rfl⟩
  exact hr
theorem rds_P8 (W : List Nat) : ∀ (n i : Nat) (S : S8), P8 S → P8 (rds W n i S)
  | 0, _, _, h => h
  | n + 1, i, S, h => rds_P8 W n (i + 1) _ (h.rnd _ _)
theorem wrs (i j : Nat) (h : j = i + 1) (hi : i < 100) : wr .i64 ((i : Int) + 1) = (j : Int) := by rw [wr64 (by omega) (by omega)]; omega
theorem sums_ok (S T : S8) (X : List Int) : loopFix sha_mixed_l12 (((), (), (), 0, ()), (ci (lst S), X, ci (lst T), ())) = some (((), (), ()), (ci (lst (addS S T)), X, ci (lst T), ())) := by
  obtain ⟨a, b, c, d, e, f, g, k⟩ := S
  obtain ⟨a', b', c', d', e', f', g', k'⟩ := T
  have ht : ∀ a b c d e f g k : Nat, ci (lst (a, b, c, d, e, f, g, k)) = [(a : Int), (b : Int), (c : Int), (d : Int), (e : Int), (f : Int), (g : Int), (k : Int)] := fun _ _ _ _ _ _ _ _ => rfl
  simp only [addS, ht]
  have w0 : wr .i64 (0 + 1) = 1 := wr64 (by omega) (by omega)
  have w1 : wr .i64 (1 + 1) = 2 := wr64 (by omega) (by omega)
  have w2 : wr .i64 (2 + 1) = 3 := wr64 (by omega) (by omega)
  have w3 : wr .i64 (3 + 1) = 4 := wr64 (by omega) (by omega)
  have w4 : wr .i64 (4 + 1) = 5 := wr64 (by omega) (by omega)
  have w5 : wr .i64 (5 + 1) = 6 := wr64 (by omega) (by omega)
  have w6 : wr .i64 (6 + 1) = 7 := wr64 (by omega) (by omega)
  have w7 : wr .i64 (7 + 1) = 8 := wr64 (by omega) (by omega)
  iterate 9 (rw [loopFix_eq]; simp only [sha_mixed_l12, ot (show (0 : Int) < 8 by omega), ot (show (1 : Int) < 8 by omega), ot (show (2 : Int) < 8 by omega), ot (show (3 : Int) < 8 by omega), ot (show (4 : Int) < 8 by omega), ot (show (5 : Int) < 8 by omega), ot (show (6 : Int) < 8 by omega), ot (show (7 : Int) < 8 by omega), of_ (show ¬ (8 : Int) < 8 by omega), cond_true, cond_false, ot (show (0 : Int) ≤ 0 ∧ (0 : Int) < ((8 : Nat) : Int) by omega), ot (show (0 : Int) ≤ 1 ∧ (1 : Int) < ((8 : Nat) : Int) by omega), ot (show (0 : Int) ≤ 2 ∧ (2 : Int) < ((8 : Nat) : Int) by omega), ot (show (0 : Int) ≤ 3 ∧ (3 : Int) < ((8 : Nat) : Int) by omega), ot (show (0 : Int) ≤ 4 ∧ (4 : Int) < ((8 : Nat) : Int) by omega), ot (show (0 : Int) ≤ 5 ∧ (5 : Int) < ((8 : Nat) : Int) by omega), ot (show (0 : Int) ≤ 6 ∧ (6 : Int) < ((8 : Nat) : Int) by omega), ot (show (0 : Int) ≤ 7 ∧ (7 : Int) < ((8 : Nat) : Int) by omega),
    show (0 : Int).toNat = 0 from rfl, show (1 : Int).toNat = 1 from rfl, show (2 : Int).toNat = 2 from rfl, show (3 : Int).toNat = 3 from rfl, show (4 : Int).toNat = 4 from rfl, show (5 : Int).toNat = 5 from rfl, show (6 : Int).toNat = 6 from rfl, show (7 : Int).toNat = 7 from rfl, List.getElem?_cons_zero, List.getElem?_cons_succ, Option.bind_some, List.set_cons_zero, List.set_cons_succ, e_add, w0, w1, w2, w3, w4, w5, w6, w7])
theorem mixed_ok (S : S8) (hS : P8 S) (b : List Nat) (hb : ∀ x ∈ b, x < 256) (hl : b.length = 64) : sha_mixed ((ci (lst S), ci KN, ci b, ()), ()) = some ((ci (lst (comp S b)), ()), ()) := by
  simp only [sha_mixed, spread_ok b hb hl, Option.bind_some, rounds_ok (sched b) (sched_len b) (sched_lt hb) _ _ S hS, sums_ok]
  rfl
theorem words_ok : sha_words ((), ()) = some ((ci KN, ()), ()) := rfl
theorem first_ok : sha_first ((), ()) = some ((ci (lst H0), ()), ()) := rfl
/-! ### messages -/
theorem runF_more : ∀ (n k : Nat) (s : S8) (m : List Nat), m.length ≤ n → runF (n + k) s m = runF n s m
  | 0, k, s, m, h => by
    cases k with
    | zero => rfl
    | succ k => simp only [Nat.zero_add, runF]; rw [if_neg (by omega)]
  | n + 1, k, s, m, h => by
    rw [show n + 1 + k = (n + k) + 1 by omega]
    simp only [runF]
    split
    · exact runF_more n k _ _ (by rw [List.length_drop]; omega)
    · rfl
theorem run_eq (s : S8) (m : List Nat) : run s m = if 64 ≤ m.length then run (comp s (m.take 64)) (m.drop 64) else (s, m) := by
  rw [run]
  cases h : m.length with
  | zero => rw [if_neg (by omega)]; rfl
  | succ n =>
    simp only [runF, h]
    split
    · rename_i h64
      rw [run, List.length_drop, h]
      have := runF_more (n + 1 - 64) 63 (comp s (m.take 64)) (m.drop 64) (by rw [List.length_drop, h]; exact Nat.le_refl _)
      rw [← this, show n + 1 - 64 + 63 = n by omega]
    · rfl
theorem run_few {s : S8} {m : List Nat} (h : m.length < 64) : run s m = (s, m) := by rw [run_eq, if_neg (by omega)]
theorem run_go {s : S8} {m : List Nat} (h : 64 ≤ m.length) : run s m = run (comp s (m.take 64)) (m.drop 64) := by rw [run_eq, if_pos h]
theorem run_ind {Q : S8 → List Nat → Prop} (h0 : ∀ s m, m.length < 64 → Q s m) (h1 : ∀ s m, 64 ≤ m.length → Q (comp s (m.take 64)) (m.drop 64) → Q s m) : ∀ m s, Q s m := by
  have key : ∀ n m s, m.length ≤ n → Q s m := by
    intro n
    induction n with
    | zero => intro m s hm; exact h0 s m (by omega)
    | succ n ih =>
      intro m s hm
      by_cases h : 64 ≤ m.length
      · exact h1 s m h (ih _ _ (by rw [List.length_drop]; omega))
      · exact h0 s m (by omega)
  exact fun m s => key m.length m s (Nat.le_refl _)
theorem run_app (b : List Nat) : ∀ m s, run s (m ++ b) = run (run s m).1 ((run s m).2 ++ b) := by
  refine run_ind (fun s m h => ?_) (fun s m h ih => ?_)
  · rw [run_few h]
  · rw [run_go h, ← ih, run_go (by rw [List.length_append]; omega), List.take_append_of_le_length h, List.drop_append_of_le_length h]
theorem run_left : ∀ m s, (run s m).2.length = m.length % 64 := by
  refine run_ind (fun s m h => ?_) (fun s m h ih => ?_)
  · rw [run_few h]; simp only; omega
  · rw [run_go h, ih, List.length_drop]; omega
theorem run_P8 : ∀ m s, P8 s → P8 (run s m).1 := by
  refine run_ind (fun s m h hs => ?_) (fun s m h ih hs => ?_)
  · rw [run_few h]; exact hs
  · rw [run_go h]; exact ih (P8.addS _ _)
theorem run_mem : ∀ m s, ∀ x ∈ (run s m).2, x ∈ m := by
  refine run_ind (fun s m h x hx => ?_) (fun s m h ih x hx => ?_)
  · rw [run_few h] at hx; exact hx
  · rw [run_go h] at hx; exact List.mem_of_mem_drop (ih x hx)
theorem H0_P8 : P8 H0 := by unfold P8; decide
/-! ### the hash -/
abbrev hob (d : Int) (K s : List Int) (n : Int) : (Unit × (Unit × Int × Unit) × (Unit × (Int × Int × Unit) × Unit) × Unit) × (List Int) × (List Int) × Unit × Int × Unit := (((), ((), d, ()), ((), (0, 0, ()), ()), ()), K, s, (), n, ())
/-- the hash of what was written; was it asked yet? -/
abbrev hs (c : Bool) (w : List Nat) : (Unit × (Unit × Int × Unit) × (Unit × (Int × Int × Unit) × Unit) × Unit) × (List Int) × (List Int) × Unit × Int × Unit := hob (bif c then 1 else 0) (bif c then ci KN else List.replicate 64 (0 : Int)) (ci (lst (run H0 w).1)) (w.length : Int)
theorem new_ok : sha_New ((), ()) = some (((), ()), (hs false [], ci (run H0 []).2, ())) := by
  rw [sha_New, first_ok]; rfl
theorem ready_ok (c : Bool) (w : List Nat) (L : List Int) : sha_Hash_ready (((), ()), (hs c w, L, ())) = some ((), (hs true w, L, ())) := by
  cases c with
  | true => simp only [sha_Hash_ready, hs, hob, cond_true, of_ (show ¬ (1 : Int) = 0 by omega), cond_false]
  | false => simp only [sha_Hash_ready, hs, hob, cond_true, cond_false, ot (show (0 : Int) = 0 from rfl), sha_Hash_ready_1, words_ok, Option.bind_some, ot (show (1 : Int) = 1 from rfl), odT]
theorem t64 : (64 : Int).toNat = 64 := rfl
theorem t640 : ((64 : Int) - (0 : Int)).toNat = 64 := rfl
theorem write_loop (d n : Int) : ∀ (m : List Nat) (S : S8), P8 S → (∀ x ∈ m, x < 256) → loopFix sha_Hash_Write_l3 (((), ()), (hob d (ci KN) (ci (lst S)) n, ci m, ())) = some (((), ()), (hob d (ci KN) (ci (lst (run S m).1)) n, ci (run S m).2, ())) := by
  refine run_ind (fun S m h hS hb => ?_) (fun S m h ih hS hb => ?_)
  · rw [run_few h, loopFix_eq]
    simp only [sha_Hash_Write_l3, hob, of_ (show ¬ ((ci m).length : Int) ≥ 64 by rw [ci_len]; omega), cond_false]
  · rw [run_go h, loopFix_eq]
    have e1 := mixed_ok S hS (m.take 64) (fun x hx => hb x (List.mem_of_mem_take hx)) (by rw [List.length_take]; omega)
    have e2 := ih (P8.addS _ _) (fun x hx => hb x (List.mem_of_mem_drop hx))
    simp only [sha_Hash_Write_l3, hob, ot (show ((ci m).length : Int) ≥ 64 by rw [ci_len]; omega), cond_true, ot (show (0 : Int) ≤ 0 ∧ (0 : Int) ≤ 64 ∧ (64 : Int) ≤ ((ci m).length : Int) by rw [ci_len]; omega), t640, ci_take, e1, Option.bind_some, ot (show (0 : Int) ≤ 64 ∧ (64 : Int) ≤ ((ci m).length : Int) by rw [ci_len]; omega), t64, ci_drop]
    exact e2
theorem write_ok (c : Bool) (w b : List Nat) (hw : ∀ x ∈ w, x < 256) (hb : ∀ x ∈ b, x < 256) (hl : w.length + b.length ≤ 1000000) : sha_Hash_Write (((), ci b, ()), (hs c w, ci (run H0 w).2, ())) = some ((), (hs true (w ++ b), ci (run H0 (w ++ b)).2, ())) := by
  have hleft := run_left w H0
  have e0 : odec ((((ci (run H0 w).2).length + (ci b).length : Nat) : Int) * ((1 : Nat) : Int) ≤ (room : Nat)) = true := inRoom (by rw [ci_len, ci_len]; omega)
  have e1 : wr .i64 ((w.length : Int) + ((ci b).length : Int)) = ((w ++ b).length : Int) := by rw [ci_len, wr64 (by omega) (by omega), List.length_append]; omega
  have hm : ∀ x ∈ (run H0 w).2 ++ b, x < 256 := fun x hx => (List.mem_append.1 hx).elim (fun h => hw x (run_mem w H0 x h)) (hb x)
  have e2 := write_loop 1 ((w ++ b).length : Int) ((run H0 w).2 ++ b) (run H0 w).1 (run_P8 w H0 H0_P8) hm
  rw [← run_app] at e2
  have hl2 := run_left (w ++ b) H0
  have e3 : odec (((([] : List Int).length + (ci (run H0 (w ++ b)).2).length : Nat) : Int) * ((1 : Nat) : Int) ≤ (room : Nat)) = true := inRoom (by rw [ci_len, List.length_nil]; omega)
  have hr := ready_ok c w (ci (run H0 w).2)
  rw [ci_app] at e2
  simp only [hs, hob, cond_true] at hr e2 ⊢
  simp only [sha_Hash_Write, hr, Option.bind_some, e0, cond_true, e1, e2, e3, List.nil_append]
theorem wr8n (n : Nat) : wr .u8 (n : Int) = ((n % 256 : Nat) : Int) := by rw [wr_eq, IntKind.wrap_u8]; omega
theorem zn_lt (n : Nat) : zn n < 64 := Nat.mod_lt _ (by decide)
theorem zn_ok (n : Nat) : (n + zn n) % 64 = 56 := by unfold zn; omega
theorem zn_min (n j : Nat) (h : (n + j) % 64 = 56) (hj : j ≤ zn n) : j = zn n := by unfold zn at *; omega
theorem pad_loop (H : (Unit × (Unit × Int × Unit) × (Unit × (Int × Int × Unit) × Unit) × Unit) × (List Int) × (List Int) × Unit × Int × Unit) (hH : ∃ d K s n, H = hob d K s n) (A B : List Int) (m : List Nat) (hm : m.length ≤ 1000000) : loopFix sha_Hash_Sum_l4 (((), (), (), ()), (H, A, B, ci m, ())) = some (((), (), (), ()), (H, B, ci (m ++ List.replicate (zn m.length) 0), A, ())) := by
  obtain ⟨d, K, s, n, rfl⟩ := hH
  have key := loop_ind (b := sha_Hash_Sum_l4) (fun x => ∃ j : Nat, x = (((), (), (), ()), (hob d K s n, A, B, ci (m ++ List.replicate j 0), ())) ∧ j ≤ zn m.length) (fun r => r = (((), (), (), ()), (hob d K s n, B, ci (m ++ List.replicate (zn m.length) 0), A, ()))) (fun x => zn m.length + m.length - x.2.2.2.2.1.length) (by
    rintro x ⟨j, rfl, hj⟩
    have hz := zn_lt m.length
    have e0 : (ci (m ++ List.replicate j 0)).length = m.length + j := by rw [ci_len]; simp
    have et : Int.tmod ((m.length + j : Nat) : Int) 64 = (((m.length + j) % 64 : Nat) : Int) := by rw [Int.tmod_eq_emod_of_nonneg (by omega)]; omega
    by_cases h : (m.length + j) % 64 = 56
    · left
      have := zn_min m.length j h hj
      subst this
      refine ⟨_, ?_, rfl⟩
      simp only [sha_Hash_Sum_l4, hob, of_ (show ¬ (64 : Int) = 0 by omega), cond_false, e0, et, ot (show (((m.length + zn m.length) % 64 : Nat) : Int) = 56 by omega), Bool.not_true]
    · right
      have hlt : j < zn m.length := by
        rcases Nat.lt_or_eq_of_le hj with h1 | h1
        · exact h1
        · subst h1; exact absurd (zn_ok m.length) h
      have e1 : odec (((m.length + j + ([0] : List Int).length : Nat) : Int) * ((1 : Nat) : Int) ≤ (room : Nat)) = true := inRoom (by simp only [List.length_cons, List.length_nil]; omega)
      have e2 : ci (m ++ List.replicate j 0) ++ ([0] : List Int) = ci (m ++ List.replicate (j + 1) 0) := by
        rw [List.replicate_succ', ← List.append_assoc, ci_app (m ++ List.replicate j 0)]; rfl
      refine ⟨(((), (), (), ()), (hob d K s n, A, B, ci (m ++ List.replicate (j + 1) 0), ())), ?_, ⟨j + 1, rfl, hlt⟩, ?_⟩
      · simp only [sha_Hash_Sum_l4, hob, of_ (show ¬ (64 : Int) = 0 by omega), cond_false, e0, et, of_ (show ¬ (((m.length + j) % 64 : Nat) : Int) = 56 by omega), Bool.not_false, cond_true, e1, e2]
      · simp only [e0]
        rw [ci_len]; simp only [List.length_append, List.length_replicate]; omega)
  obtain ⟨r, hr, rfl⟩ := key (((), (), (), ()), (hob d K s n, A, B, ci m, ())) ⟨0, by simp, by omega⟩
  exact hr
def be8 (v : Nat) : List Nat := [(v >>> 56) % 256, (v >>> 48) % 256, (v >>> 40) % 256, (v >>> 32) % 256, (v >>> 24) % 256, (v >>> 16) % 256, (v >>> 8) % 256, (v >>> 0) % 256]
theorem be8_eq {v : Nat} (h : v < M32) : be8 v = be64 v := by
  have z : ∀ n, 32 ≤ n → (v >>> n) % 256 = 0 := fun n hn => by
    have : v >>> n = 0 := by
      rw [Nat.shiftRight_eq_div_pow]
      exact Nat.div_eq_of_lt (Nat.lt_of_lt_of_le h (show M32 ≤ 2 ^ n from Nat.pow_le_pow_right (n := 2) (by decide) hn))
    rw [this]
  simp only [be8, be64, be4, z 56 (by omega), z 48 (by omega), z 40 (by omega), z 32 (by omega), Nat.shiftRight_zero]
  rfl
theorem len_loop (H : (Unit × (Unit × Int × Unit) × (Unit × (Int × Int × Unit) × Unit) × Unit) × (List Int) × (List Int) × Unit × Int × Unit) (hH : ∃ d K s n, H = hob d K s n) (A B : List Int) (v : Nat) (m : List Nat) (hm : m.length ≤ 1001000) : loopFix sha_Hash_Sum_l8 (((), (), (), (v : Int), 7, ()), (H, A, B, ci m, ())) = some (((), (), ci (m ++ be8 v), ()), (H, B, A, ())) := by
  obtain ⟨d, K, s, n, rfl⟩ := hH
  have key := loop_ind (b := sha_Hash_Sum_l8) (fun x => ∃ j : Nat, x = (((), (), (), (v : Int), 7 - (j : Int), ()), (hob d K s n, A, B, ci (m ++ (be8 v).take j), ())) ∧ j ≤ 8) (fun r => r = (((), (), ci (m ++ be8 v), ()), (hob d K s n, B, A, ()))) (fun x => (x.1.2.2.2.2.1 + 1).toNat) (by
    rintro x ⟨j, rfl, hj⟩
    by_cases h : j < 8
    · right
      have e0 : (ci (m ++ (be8 v).take j)).length = m.length + j := by rw [ci_len, List.length_append, List.length_take, show (be8 v).length = 8 from rfl]; omega
      have e2 : wr .u64 (wr .i64 (8 * (7 - (j : Int)))) = ((8 * (7 - j) : Nat) : Int) := by rw [wr64 (by omega) (by omega), wr_eq, IntKind.wrap_u64]; omega
      have e3 : shr .u64 (v : Int) ((8 * (7 - j) : Nat) : Int) = ((v >>> (8 * (7 - j)) : Nat) : Int) := shr_nat .u64 v _ (by show 8 * (7 - j) ≤ 64; omega)
      have e4 : wr .i64 (7 - (j : Int) - 1) = 7 - ((j + 1 : Nat) : Int) := by rw [wr64 (by omega) (by omega)]; omega
      have e5 : (be8 v)[j]? = some ((v >>> (8 * (7 - j))) % 256) := by
        have : j = 0 ∨ j = 1 ∨ j = 2 ∨ j = 3 ∨ j = 4 ∨ j = 5 ∨ j = 6 ∨ j = 7 := by omega
        rcases this with rfl | rfl | rfl | rfl | rfl | rfl | rfl | rfl <;> rfl
      have e6 : ci (m ++ (be8 v).take (j + 1)) = ci (m ++ (be8 v).take j) ++ [((((v >>> (8 * (7 - j))) % 256 : Nat)) : Int)] := by
        rw [List.take_add_one, e5, ← List.append_assoc, ci_app]; rfl
      have e7 : odec (((m.length + j + ([((((v >>> (8 * (7 - j))) % 256 : Nat)) : Int)] : List Int).length : Nat) : Int) * ((1 : Nat) : Int) ≤ (room : Nat)) = true := inRoom (by simp only [List.length_cons, List.length_nil]; omega)
      refine ⟨(((), (), (), (v : Int), 7 - ((j + 1 : Nat) : Int), ()), (hob d K s n, A, B, ci (m ++ (be8 v).take (j + 1)), ())), ?_, ⟨j + 1, rfl, h⟩, by simp only; omega⟩
      rw [e6]
      simp only [sha_Hash_Sum_l8, hob, ot (show 7 - (j : Int) ≥ 0 by omega), cond_true, e2, of_ (show ¬ ((8 * (7 - j) : Nat) : Int) < 0 by omega), cond_false, e3, wr8n, e0, e7, e4]
    · left
      have : j = 8 := by omega
      subst this
      refine ⟨_, ?_, rfl⟩
      simp only [sha_Hash_Sum_l8, hob, of_ (show ¬ 7 - ((8 : Nat) : Int) ≥ 0 by omega), cond_false, show (be8 v).take 8 = be8 v from rfl])
  obtain ⟨r, hr, rfl⟩ := key (((), (), (), (v : Int), 7, ()), (hob d K s n, A, B, ci m, ())) ⟨0, by simp, by omega⟩
  exact hr
theorem blocks_loop (d n : Int) (sx : List Int) (A B : List Int) : ∀ (m : List Nat) (S : S8), P8 S → (∀ x ∈ m, x < 256) → m.length % 64 = 0 → loopFix sha_Hash_Sum_l12 (((), (), ci m, (), ()), (hob d (ci KN) sx n, A, B, ci (lst S), ())) = some (((), (), ()), (hob d (ci KN) sx n, B, ci (lst (run S m).1), A, ())) := by
  refine run_ind (fun S m h hS hb h0 => ?_) (fun S m h ih hS hb h0 => ?_)
  · have : m = [] := List.eq_nil_of_length_eq_zero (by omega)
    subst this
    rw [run_few h, loopFix_eq]
    simp only [sha_Hash_Sum_l12, hob, of_ (show ¬ ((ci []).length : Int) > 0 by simp [ci]), cond_false]
  · rw [run_go h, loopFix_eq]
    have e1 := mixed_ok S hS (m.take 64) (fun x hx => hb x (List.mem_of_mem_take hx)) (by rw [List.length_take]; omega)
    have e2 := ih (P8.addS _ _) (fun x hx => hb x (List.mem_of_mem_drop hx)) (by rw [List.length_drop]; omega)
    simp only [sha_Hash_Sum_l12, hob, ot (show ((ci m).length : Int) > 0 by rw [ci_len]; omega), cond_true, ot (show (0 : Int) ≤ 0 ∧ (0 : Int) ≤ 64 ∧ (64 : Int) ≤ ((ci m).length : Int) by rw [ci_len]; omega), ci_take, t64, e1, Option.bind_some, ot (show (0 : Int) ≤ 64 ∧ (64 : Int) ≤ ((ci m).length : Int) ∧ ((ci m).length : Int) ≤ ((ci m).length : Int) by rw [ci_len]; omega), ci_drop]
    exact e2
theorem quad (A : List Nat) (m x : Nat) : let q0 := ci A ++ List.replicate (m + 4) (0 : Int); let q1 := ci (A ++ [(x >>> 24) % 256]) ++ List.replicate (m + 3) (0 : Int); let q2 := ci (A ++ [(x >>> 24) % 256] ++ [(x >>> 16) % 256]) ++ List.replicate (m + 2) (0 : Int); let q3 := ci (A ++ [(x >>> 24) % 256] ++ [(x >>> 16) % 256] ++ [(x >>> 8) % 256]) ++ List.replicate (m + 1) (0 : Int);
    q0[A.length]? = some 0 ∧ q0.set A.length (((x >>> 24) % 256 : Nat) : Int) = q1 ∧ q1[A.length + 1]? = some 0 ∧ q1.set (A.length + 1) (((x >>> 16) % 256 : Nat) : Int) = q2 ∧ q2[A.length + 2]? = some 0 ∧ q2.set (A.length + 2) (((x >>> 8) % 256 : Nat) : Int) = q3 ∧ q3[A.length + 3]? = some 0 ∧ q3.set (A.length + 3) ((x % 256 : Nat) : Int) = ci (A ++ be4 x) ++ List.replicate m (0 : Int) := by
  intro q0 q1 q2 q3
  have l1 : (A ++ [(x >>> 24) % 256]).length = A.length + 1 := by simp
  have l2 : (A ++ [(x >>> 24) % 256] ++ [(x >>> 16) % 256]).length = A.length + 2 := by simp
  have l3 : (A ++ [(x >>> 24) % 256] ++ [(x >>> 16) % 256] ++ [(x >>> 8) % 256]).length = A.length + 3 := by simp
  refine ⟨fill_at A (m + 3), fill_set A (m + 3) _, ?_, ?_, ?_, ?_, ?_, ?_⟩
  · have := fill_at (A ++ [(x >>> 24) % 256]) (m + 2); rwa [l1] at this
  · have := fill_set (A ++ [(x >>> 24) % 256]) (m + 2) ((x >>> 16) % 256); rwa [l1] at this
  · have := fill_at (A ++ [(x >>> 24) % 256] ++ [(x >>> 16) % 256]) (m + 1); rwa [l2] at this
  · have := fill_set (A ++ [(x >>> 24) % 256] ++ [(x >>> 16) % 256]) (m + 1) ((x >>> 8) % 256); rwa [l2] at this
  · have := fill_at (A ++ [(x >>> 24) % 256] ++ [(x >>> 16) % 256] ++ [(x >>> 8) % 256]) m; rwa [l3] at this
  · have := fill_set (A ++ [(x >>> 24) % 256] ++ [(x >>> 16) % 256] ++ [(x >>> 8) % 256]) m (x % 256)
    rw [l3] at this
    rw [this]
    simp only [be4, List.append_assoc, List.cons_append, List.nil_append]
theorem byte24 (x : Nat) : wr .u8 (shr .u32 (x : Int) 24) = (((x >>> 24) % 256 : Nat) : Int) := by
  have e : shr .u32 (x : Int) 24 = ((x >>> 24 : Nat) : Int) := shr32 x 24 (by omega)
  rw [e, wr8n]
theorem byte16 (x : Nat) : wr .u8 (shr .u32 (x : Int) 16) = (((x >>> 16) % 256 : Nat) : Int) := by
  have e : shr .u32 (x : Int) 16 = ((x >>> 16 : Nat) : Int) := shr32 x 16 (by omega)
  rw [e, wr8n]
theorem byte8 (x : Nat) : wr .u8 (shr .u32 (x : Int) 8) = (((x >>> 8) % 256 : Nat) : Int) := by
  have e : shr .u32 (x : Int) 8 = ((x >>> 8 : Nat) : Int) := shr32 x 8 (by omega)
  rw [e, wr8n]
def outA (xs : List Nat) (i : Nat) : List Nat := (List.range i).flatMap fun j => be4 (xs.getD j 0)
theorem outA_len (xs : List Nat) : ∀ i, (outA xs i).length = 4 * i
  | 0 => rfl
  | i + 1 => by
    have := outA_len xs i
    rw [outA] at this ⊢
    rw [List.range_succ, List.flatMap_append, List.length_append, this]
    simp [be4]; omega
theorem outA_succ (xs : List Nat) (i : Nat) : outA xs (i + 1) = outA xs i ++ be4 (xs.getD i 0) := by
  rw [outA, List.range_succ, List.flatMap_append]; simp [outA]
theorem out_loop (X : List Int) (S : S8) : loopFix sha_Hash_Sum_l17 (((), (), ci (lst S), 0, ()), (X, List.replicate 32 (0 : Int), ())) = some (((), (), ()), (X, ci (outN S), ())) := by
  have hl : (lst S).length = 8 := rfl
  have key := loop_ind (b := sha_Hash_Sum_l17) (fun d => ∃ i : Nat, d = (((), (), ci (lst S), (i : Int), ()), (X, ci (outA (lst S) i) ++ List.replicate (32 - 4 * i) (0 : Int), ())) ∧ i ≤ 8) (fun r => r = (((), (), ()), (X, ci (outN S), ()))) (fun d => 8 - d.1.2.2.2.1.toNat) (by
    rintro d ⟨i, rfl, hi⟩
    by_cases h : i < 8
    · right
      have e1 : wr .i64 ((i : Int) + 1) = ((i + 1 : Nat) : Int) := by rw [wr64 (by omega) (by omega)]; omega
      have e2 : wr .i64 (4 * (i : Int)) = ((4 * i : Nat) : Int) := by rw [wr64 (by omega) (by omega)]; omega
      have e3 : wr .i64 (((4 * i : Nat) : Int) + 1) = ((4 * i + 1 : Nat) : Int) := by rw [wr64 (by omega) (by omega)]; omega
      have e4 : wr .i64 (((4 * i : Nat) : Int) + 2) = ((4 * i + 2 : Nat) : Int) := by rw [wr64 (by omega) (by omega)]; omega
      have e5 : wr .i64 (((4 * i : Nat) : Int) + 3) = ((4 * i + 3 : Nat) : Int) := by rw [wr64 (by omega) (by omega)]; omega
      obtain ⟨q0, q1, q2, q3, q4, q5, q6, q7⟩ := quad (outA (lst S) i) (32 - 4 * (i + 1)) ((lst S).getD i 0)
      rw [outA_len] at q0 q1 q2 q3 q4 q5 q6 q7
      refine ⟨(((), (), ci (lst S), ((i + 1 : Nat) : Int), ()), (X, ci (outA (lst S) (i + 1)) ++ List.replicate (32 - 4 * (i + 1)) (0 : Int), ())), ?_, ⟨i + 1, rfl, h⟩, by simp only; omega⟩
      rw [outA_succ, show 32 - 4 * i = 32 - 4 * (i + 1) + 4 by omega]
      simp only [sha_Hash_Sum_l17, ot (show (i : Int) < 8 by omega), cond_true, ot (show (0 : Int) ≤ (i : Int) ∧ (i : Int) < ((8 : Nat) : Int) by omega), Int.toNat_natCast, ci_get (show i < (lst S).length by omega), Option.bind_some, of_ (show ¬ (24 : Int) < 0 by omega), of_ (show ¬ (16 : Int) < 0 by omega), of_ (show ¬ (8 : Int) < 0 by omega), cond_false, e2, e3, e4, e5, byte24, byte16, byte8, wr8n,
        ot (show (0 : Int) ≤ ((4 * i : Nat) : Int) ∧ ((4 * i : Nat) : Int) < ((32 : Nat) : Int) by omega), ot (show (0 : Int) ≤ ((4 * i + 1 : Nat) : Int) ∧ ((4 * i + 1 : Nat) : Int) < ((32 : Nat) : Int) by omega), ot (show (0 : Int) ≤ ((4 * i + 2 : Nat) : Int) ∧ ((4 * i + 2 : Nat) : Int) < ((32 : Nat) : Int) by omega), ot (show (0 : Int) ≤ ((4 * i + 3 : Nat) : Int) ∧ ((4 * i + 3 : Nat) : Int) < ((32 : Nat) : Int) by omega), q0, q1, q2, q3, q4, q5, q6, q7, e1]
    · left
      have : i = 8 := by omega
      subst this
      refine ⟨_, by simp only [sha_Hash_Sum_l17, of_ (show ¬ ((8 : Nat) : Int) < 8 by omega), cond_false]; rfl, ?_⟩
      have : outA (lst S) 8 = outN S := rfl
      rw [this]; simp)
  obtain ⟨r, hr, rfl⟩ := key (((), (), ci (lst S), 0, ()), (X, List.replicate 32 (0 : Int), ())) ⟨0, rfl, by omega⟩
  exact hr
theorem be4_lt (x : Nat) : ∀ y ∈ be4 x, y < 256 := by
  intro y hy
  simp only [be4, List.mem_cons, List.not_mem_nil, or_false] at hy
  omega
theorem outN_lt (S : S8) : ∀ y ∈ outN S, y < 256 := by
  intro y hy
  obtain ⟨x, _, h⟩ := List.mem_flatMap.1 hy
  exact be4_lt x y h
theorem outN_len (S : S8) : (outN S).length = 32 := rfl
theorem sha_len (w : List Nat) : (shaN w).length = 32 := rfl
theorem sha_lt (w : List Nat) : ∀ y ∈ shaN w, y < 256 := outN_lt _
theorem sum_ok (c : Bool) (w : List Nat) (hw : ∀ x ∈ w, x < 256) (hl : w.length ≤ 1000000) : sha_Hash_Sum (((), ()), (hs c w, ci (run H0 w).2, ())) = some ((ci (shaN w), ()), (hs true w, ci (run H0 w).2, ())) := by
  have hleft := run_left w H0
  have hlt : (run H0 w).2.length < 64 := by rw [hleft]; exact Nat.mod_lt _ (by decide)
  have e0 : odec (((([] : List Int).length + (ci (run H0 w).2).length : Nat) : Int) * ((1 : Nat) : Int) ≤ (room : Nat)) = true := inRoom (by rw [ci_len, List.length_nil]; omega)
  have e1 : odec ((((ci (run H0 w).2).length + ([128] : List Int).length : Nat) : Int) * ((1 : Nat) : Int) ≤ (room : Nat)) = true := inRoom (by rw [ci_len, List.length_cons, List.length_nil]; omega)
  have e2 : ci (run H0 w).2 ++ ([128] : List Int) = ci ((run H0 w).2 ++ [128]) := by rw [ci_app]; rfl
  have hz : zn ((run H0 w).2 ++ [128]).length = zn (w.length + 1) := by
    rw [List.length_append, hleft, List.length_cons, List.length_nil]; unfold zn; omega
  have p1 := pad_loop (hs true w) ⟨_, _, _, _, rfl⟩ (ci (run H0 w).2) (List.replicate 32 (0 : Int)) ((run H0 w).2 ++ [128]) (by rw [List.length_append, List.length_cons, List.length_nil]; omega)
  rw [hz] at p1
  have ev : wr .u64 (wr .u64 (w.length : Int) * 8) = ((8 * w.length : Nat) : Int) := by simp only [wr_eq, IntKind.wrap_u64]; omega
  have zl := zn_lt (w.length + 1)
  have p2 := len_loop (hs true w) ⟨_, _, _, _, rfl⟩ (ci (run H0 w).2) (List.replicate 32 (0 : Int)) (8 * w.length) (((run H0 w).2 ++ [128]) ++ List.replicate (zn (w.length + 1)) 0) (by simp only [List.length_append, List.length_replicate, List.length_cons, List.length_nil]; omega)
  rw [be8_eq (by simp only [M32]; omega)] at p2
  have hm : ((run H0 w).2 ++ [128]) ++ List.replicate (zn (w.length + 1)) 0 ++ be64 (8 * w.length) = (run H0 w).2 ++ pad w.length := by simp only [pad, List.append_assoc]
  rw [hm] at p2
  have hml : ((run H0 w).2 ++ pad w.length).length % 64 = 0 := by
    have := zn_ok (w.length + 1)
    have l8 : (be64 (8 * w.length)).length = 8 := rfl
    simp only [pad, List.length_append, List.length_replicate, List.length_cons, List.length_nil, l8, hleft]
    omega
  have hmb : ∀ x ∈ (run H0 w).2 ++ pad w.length, x < 256 := by
    intro x hx
    rcases List.mem_append.1 hx with h | h
    · exact hw x (run_mem w H0 x h)
    · simp only [pad, be64, List.mem_append, List.mem_replicate] at h
      rcases h with h | h | h | h
      · simp at h; omega
      · omega
      · simp at h; omega
      · exact be4_lt _ x h
  have p3 := blocks_loop 1 (w.length : Int) (ci (lst (run H0 w).1)) (ci (run H0 w).2) (List.replicate 32 (0 : Int)) _ (run H0 w).1 (run_P8 w H0 H0_P8) hmb hml
  rw [← run_app] at p3
  have p4 := out_loop (List.replicate 32 (0 : Int)) (run H0 (w ++ pad w.length)).1
  have hr := ready_ok c w (ci (run H0 w).2)
  simp only [hs, hob, cond_true] at hr p1 p2 p3 ⊢
  simp only [sha_Hash_Sum, hr, Option.bind_some, e0, cond_true, List.nil_append, e1, e2, p1, ev, p2, p3, p4]
  rfl
theorem shaSum_ok (w : List Nat) (hw : ∀ x ∈ w, x < 256) (hl : w.length ≤ 1000000) : sha_Sum ((ci w, ()), ()) = some ((ci (shaN w), ()), ()) := by
  have h1 := write_ok false [] w (by simp) hw (by simpa using hl)
  rw [List.nil_append] at h1
  have h2 := sum_ok true w hw hl
  simp only [hs, hob] at h1 h2
  have h0 := new_ok
  simp only [hs, hob] at h0
  simp only [sha_Sum, h0, Option.bind_some, h1, h2]
/-! ### the document's own -/
theorem turn_ok {x : Nat} (n : Nat) (hx : x < M32) (h1 : 1 ≤ n) (h2 : n ≤ 31) : jobberref1_turn (((x : Int), (n : Int), ()), ()) = some ((((rotN x n : Nat) : Int), ()), ()) := by
  have e1 : wr .i64 (32 - (n : Int)) = ((32 - n : Nat) : Int) := by rw [wr64 (by omega) (by omega)]; omega
  have e5 : bor .u32 ((x >>> n : Nat) : Int) (((x <<< (32 - n)) % M32 : Nat) : Int) = ((rotN x n : Nat) : Int) := by rw [bor32 (sr_lt n hx) (mod_lt _)]; rfl
  simp only [jobberref1_turn, e1, of_ (show ¬ ((32 - n : Nat) : Int) < 0 by omega), of_ (show ¬ ((n : Nat) : Int) < 0 by omega), cond_false]
  rw [shl32 x (32 - n) (by omega), shr32 x n (by omega), e5]
theorem rnext_ok (a b c d : Nat) : wr .u32 (wr .u32 (wr .u32 ((a : Int) + (c : Int)) + ((sg0 b : Nat) : Int)) + ((sg1 d : Nat) : Int)) = ((((a + sg0 b) + c + sg1 d) % M32 : Nat) : Int) := by
  simp only [wr_add]
  rw [show (a : Int) + (c : Int) + ((sg0 b : Nat) : Int) + ((sg1 d : Nat) : Int) = ((a + sg0 b + c + sg1 d : Nat) : Int) by omega, wr32]
theorem getD_cut (m : List Nat) (a j : Nat) (h : j < 64) : ((m.drop a).take 64).getD j 0 = m.getD (a + j) 0 := by
  rw [List.getD_eq_getElem?_getD, List.getD_eq_getElem?_getD, List.getElem?_take_of_lt h, List.getElem?_drop]
theorem ref_sched (m : List Nat) (hm : ∀ x ∈ m, x < 256) (a : Nat) (ha : a + 64 ≤ m.length) (hl : m.length ≤ 2000000) (X h K : List Int) : loopFix jobberref1_Sha_l12 (((), ci m, (), (), (a : Int), (), 0, ()), (X, h, K, List.replicate 64 (0 : Int), ())) = some (((), ci m, (), (), (a : Int), (), ()), (X, h, K, ci (sched ((m.drop a).take 64)), ())) := by
  have key := loop_ind (b := jobberref1_Sha_l12) (fun d => ∃ (i : Nat) (W : List Nat), d = (((), ci m, (), (), (a : Int), (), (i : Int), ()), (X, h, K, ci W ++ List.replicate (64 - i) (0 : Int), ())) ∧ i ≤ 64 ∧ W.length = i ∧ (∀ x ∈ W, x < M32) ∧ ((i ≤ 16 ∧ W = (List.range i).map (wd ((m.drop a).take 64))) ∨ (16 ≤ i ∧ ext (64 - i) W = sched ((m.drop a).take 64)))) (fun r => r = (((), ci m, (), (), (a : Int), (), ()), (X, h, K, ci (sched ((m.drop a).take 64)), ()))) (fun d => 64 - d.1.2.2.2.2.2.2.1.toNat) (by
    rintro d ⟨i, W, rfl, hi, hW, hlt, hc⟩
    have hbb : ∀ x ∈ (m.drop a).take 64, x < 256 := fun x hx => hm x (List.mem_of_mem_drop (List.mem_of_mem_take hx))
    by_cases h64 : i < 64
    · right
      have e1 : wr .i64 ((i : Int) + 1) = ((i + 1 : Nat) : Int) := by rw [wr64 (by omega) (by omega)]; omega
      have hr : 64 - i = (64 - (i + 1)) + 1 := by omega
      have s1 := fill_at W (64 - (i + 1))
      rw [hW] at s1
      by_cases h16 : i < 16
      · have hWd : W = (List.range i).map (wd ((m.drop a).take 64)) := by
          rcases hc with hc | hc
          · exact hc.2
          · omega
        have e0 : wr .i64 (4 * (i : Int)) = ((4 * i : Nat) : Int) := by rw [wr64 (by omega) (by omega)]; omega
        have e2 : wr .i64 ((a : Int) + ((4 * i : Nat) : Int)) = ((a + 4 * i : Nat) : Int) := by rw [wr64 (by omega) (by omega)]; omega
        have e3 : wr .i64 (((a + 4 * i : Nat) : Int) + 1) = ((a + (4 * i + 1) : Nat) : Int) := by rw [wr64 (by omega) (by omega)]; omega
        have e4 : wr .i64 (((a + 4 * i : Nat) : Int) + 2) = ((a + (4 * i + 2) : Nat) : Int) := by rw [wr64 (by omega) (by omega)]; omega
        have e5 : wr .i64 (((a + 4 * i : Nat) : Int) + 3) = ((a + (4 * i + 3) : Nat) : Int) := by rw [wr64 (by omega) (by omega)]; omega
        have g : ∀ j, m.getD j 0 < 256 := getD_lt (by omega) hm
        have hw := e_word (g (a + 4 * i)) (g (a + (4 * i + 1))) (g (a + (4 * i + 2))) (g (a + (4 * i + 3)))
        have hwd : wordN (m.getD (a + 4 * i) 0) (m.getD (a + (4 * i + 1)) 0) (m.getD (a + (4 * i + 2)) 0) (m.getD (a + (4 * i + 3)) 0) = wd ((m.drop a).take 64) i := by
          rw [wd, getD_cut _ _ _ (by omega), getD_cut _ _ _ (by omega), getD_cut _ _ _ (by omega), getD_cut _ _ _ (by omega)]
        rw [hwd] at hw
        have s2 := fill_set W (64 - (i + 1)) (wd ((m.drop a).take 64) i)
        rw [hW] at s2
        have hW2 : W ++ [wd ((m.drop a).take 64) i] = (List.range (i + 1)).map (wd ((m.drop a).take 64)) := by rw [hWd, List.range_succ, List.map_append]; rfl
        refine ⟨(((), ci m, (), (), (a : Int), (), ((i + 1 : Nat) : Int), ()), (X, h, K, ci (W ++ [wd ((m.drop a).take 64) i]) ++ List.replicate (64 - (i + 1)) (0 : Int), ())), ?_, ⟨i + 1, _, rfl, by omega, by simp [hW], by rw [hW2]; exact sched0_lt hbb _, .inl ⟨by omega, hW2⟩⟩, by simp only; omega⟩
        rw [hr]
        simp only [jobberref1_Sha_l12, ot (show (i : Int) < 64 by omega), ot (show (i : Int) < 16 by omega), cond_true, e0, e2, e3, e4, e5, ot (show (0 : Int) ≤ ((a + 4 * i : Nat) : Int) by omega), ot (show (0 : Int) ≤ ((a + (4 * i + 1) : Nat) : Int) by omega), ot (show (0 : Int) ≤ ((a + (4 * i + 2) : Nat) : Int) by omega), ot (show (0 : Int) ≤ ((a + (4 * i + 3) : Nat) : Int) by omega), Int.toNat_natCast, ci_get (show a + 4 * i < m.length by omega), ci_get (show a + (4 * i + 1) < m.length by omega), ci_get (show a + (4 * i + 2) < m.length by omega), ci_get (show a + (4 * i + 3) < m.length by omega), Option.bind_some,
          of_ (show ¬ (24 : Int) < 0 by omega), of_ (show ¬ (16 : Int) < 0 by omega), of_ (show ¬ (8 : Int) < 0 by omega), cond_false, ot (show (0 : Int) ≤ (i : Int) ∧ (i : Int) < ((64 : Nat) : Int) by omega), s1, hw, s2, e1]
      · have hext : ext (64 - i) W = sched ((m.drop a).take 64) := by
          rcases hc with hc | hc
          · have : i = 16 := by omega
            subst this
            rw [hc.2]; rfl
          · exact hc.2
        have e2 : wr .i64 ((i : Int) - 15) = ((i - 15 : Nat) : Int) := by rw [wr64 (by omega) (by omega)]; omega
        have e3 : wr .i64 ((i : Int) - 2) = ((i - 2 : Nat) : Int) := by rw [wr64 (by omega) (by omega)]; omega
        have e4 : wr .i64 ((i : Int) - 16) = ((i - 16 : Nat) : Int) := by rw [wr64 (by omega) (by omega)]; omega
        have e5 : wr .i64 ((i : Int) - 7) = ((i - 7 : Nat) : Int) := by rw [wr64 (by omega) (by omega)]; omega
        have g : ∀ j, W.getD j 0 < M32 := getD_lt m32_pos hlt
        have s2 := fill_set W (64 - (i + 1)) (wnext W)
        rw [hW] at s2
        have r7 : jobberref1_turn ((((W.getD (i - 15) 0 : Nat) : Int), 7, ()), ()) = _ := turn_ok 7 (g (i - 15)) (by omega) (by omega)
        have r18 : jobberref1_turn ((((W.getD (i - 15) 0 : Nat) : Int), 18, ()), ()) = _ := turn_ok 18 (g (i - 15)) (by omega) (by omega)
        have r17 : jobberref1_turn ((((W.getD (i - 2) 0 : Nat) : Int), 17, ()), ()) = _ := turn_ok 17 (g (i - 2)) (by omega) (by omega)
        have r19 : jobberref1_turn ((((W.getD (i - 2) 0 : Nat) : Int), 19, ()), ()) = _ := turn_ok 19 (g (i - 2)) (by omega) (by omega)
        have hn : wnext W = ((W.getD (i - 16) 0 + sg0 (W.getD (i - 15) 0)) + W.getD (i - 7) 0 + sg1 (W.getD (i - 2) 0)) % M32 := by rw [wnext, hW]
        refine ⟨(((), ci m, (), (), (a : Int), (), ((i + 1 : Nat) : Int), ()), (X, h, K, ci (W ++ [wnext W]) ++ List.replicate (64 - (i + 1)) (0 : Int), ())), ?_, ⟨i + 1, _, rfl, by omega, by simp [hW], fun x hx => ?_, .inr ⟨by omega, ?_⟩⟩, by simp only; omega⟩
        · rw [hr]
          simp only [jobberref1_Sha_l12, ot (show (i : Int) < 64 by omega), of_ (show ¬ (i : Int) < 16 by omega), cond_true, cond_false, e2, e3, e4, e5, ot (show (0 : Int) ≤ ((i - 15 : Nat) : Int) ∧ ((i - 15 : Nat) : Int) < ((64 : Nat) : Int) by omega), ot (show (0 : Int) ≤ ((i - 2 : Nat) : Int) ∧ ((i - 2 : Nat) : Int) < ((64 : Nat) : Int) by omega), ot (show (0 : Int) ≤ ((i - 16 : Nat) : Int) ∧ ((i - 16 : Nat) : Int) < ((64 : Nat) : Int) by omega), ot (show (0 : Int) ≤ ((i - 7 : Nat) : Int) ∧ ((i - 7 : Nat) : Int) < ((64 : Nat) : Int) by omega), Int.toNat_natCast, fill_get (show i - 15 < W.length by omega), fill_get (show i - 2 < W.length by omega), fill_get (show i - 16 < W.length by omega), fill_get (show i - 7 < W.length by omega), Option.bind_some,
            r7, r18, r17, r19, of_ (show ¬ (3 : Int) < 0 by omega), of_ (show ¬ (10 : Int) < 0 by omega), e_sg0 (g (i - 15)), e_sg1 (g (i - 2)), rnext_ok, ot (show (0 : Int) ≤ (i : Int) ∧ (i : Int) < ((64 : Nat) : Int) by omega), s1, e1, ← hn, s2]
        · rcases List.mem_append.1 hx with hx | hx
          · exact hlt x hx
          · rw [List.mem_singleton] at hx; subst hx; exact mod_lt _
        · rw [← hext, hr]; rfl
    · left
      have : i = 64 := by omega
      subst this
      have hW' : W = sched ((m.drop a).take 64) := by
        rcases hc with hc | hc
        · omega
        · exact hc.2
      refine ⟨_, by simp only [jobberref1_Sha_l12, of_ (show ¬ ((64 : Nat) : Int) < 64 by omega), cond_false]; rfl, ?_⟩
      rw [← hW']; simp)
  obtain ⟨r, hr, rfl⟩ := key (((), ci m, (), (), (a : Int), (), 0, ()), (X, h, K, List.replicate 64 (0 : Int), ())) ⟨0, [], rfl, by omega, rfl, by simp, .inl ⟨by omega, rfl⟩⟩
  exact hr
theorem ref_rounds (m : List Int) (a : Int) (X h : List Int) (W : List Nat) (hW : W.length = 64) (S : S8) (hS : P8 S) : loopFix jobberref1_Sha_l20 (((), m, (), (), a, (), (), 0, ()), (X, h, ci KN, ci W, ci (lst S), ())) = some (((), m, (), (), a, (), ()), (X, h, ci KN, ci W, ci (lst (rds W 64 0 S)), ())) := by
  have key := loop_ind (b := jobberref1_Sha_l20) (fun d => ∃ (i : Nat) (T : S8), d = (((), m, (), (), a, (), (), (i : Int), ()), (X, h, ci KN, ci W, ci (lst T), ())) ∧ i ≤ 64 ∧ P8 T ∧ rds W (64 - i) i T = rds W 64 0 S) (fun r => r = (((), m, (), (), a, (), ()), (X, h, ci KN, ci W, ci (lst (rds W 64 0 S)), ()))) (fun d => 64 - d.1.2.2.2.2.2.2.2.1.toNat) (by
    rintro d ⟨i, T, rfl, hi, hT, hr⟩
    by_cases h : i < 64
    · right
      have e1 : wr .i64 ((i : Int) + 1) = ((i + 1 : Nat) : Int) := by rw [wr64 (by omega) (by omega)]; omega
      refine ⟨(((), m, (), (), a, (), (), ((i + 1 : Nat) : Int), ()), (X, _, ci KN, ci W, ci (lst (rnd T (KN.getD i 0) (W.getD i 0))), ())), ?_, ⟨i + 1, _, rfl, by omega, hT.rnd _ _, ?_⟩, by simp only; omega⟩
      · obtain ⟨a, b, c, d, e, f, g, k⟩ := T
        simp only [P8, lst, List.forall_mem_cons] at hT
        obtain ⟨ha, hb, hc, hd, he, hf, hg, hk, _⟩ := hT
        have r6 : jobberref1_turn (((e : Int), 6, ()), ()) = _ := turn_ok 6 he (by omega) (by omega)
        have r11 : jobberref1_turn (((e : Int), 11, ()), ()) = _ := turn_ok 11 he (by omega) (by omega)
        have r25 : jobberref1_turn (((e : Int), 25, ()), ()) = _ := turn_ok 25 he (by omega) (by omega)
        have r2 : jobberref1_turn (((a : Int), 2, ()), ()) = _ := turn_ok 2 ha (by omega) (by omega)
        have r13 : jobberref1_turn (((a : Int), 13, ()), ()) = _ := turn_ok 13 ha (by omega) (by omega)
        have r22 : jobberref1_turn (((a : Int), 22, ()), ()) = _ := turn_ok 22 ha (by omega) (by omega)
        have ht : ci (lst (a, b, c, d, e, f, g, k)) = [(a : Int), (b : Int), (c : Int), (d : Int), (e : Int), (f : Int), (g : Int), (k : Int)] := rfl
        have hn : ci (lst (rnd (a, b, c, d, e, f, g, k) (KN.getD i 0) (W.getD i 0))) = [(((rx e f g k (KN.getD i 0) (W.getD i 0) + ry a b c) % M32 : Nat) : Int), (a : Int), (b : Int), (c : Int), (((d + rx e f g k (KN.getD i 0) (W.getD i 0)) % M32 : Nat) : Int), (e : Int), (f : Int), (g : Int)] := rfl
        rw [ht, hn]
        simp only [jobberref1_Sha_l20, ot (show (i : Int) < 64 by omega), cond_true, ot (show (0 : Int) ≤ 0 ∧ (0 : Int) < ((8 : Nat) : Int) by omega), ot (show (0 : Int) ≤ 1 ∧ (1 : Int) < ((8 : Nat) : Int) by omega), ot (show (0 : Int) ≤ 2 ∧ (2 : Int) < ((8 : Nat) : Int) by omega), ot (show (0 : Int) ≤ 3 ∧ (3 : Int) < ((8 : Nat) : Int) by omega), ot (show (0 : Int) ≤ 4 ∧ (4 : Int) < ((8 : Nat) : Int) by omega), ot (show (0 : Int) ≤ 5 ∧ (5 : Int) < ((8 : Nat) : Int) by omega), ot (show (0 : Int) ≤ 6 ∧ (6 : Int) < ((8 : Nat) : Int) by omega), ot (show (0 : Int) ≤ 7 ∧ (7 : Int) < ((8 : Nat) : Int) by omega),
          show (0 : Int).toNat = 0 from rfl, show (1 : Int).toNat = 1 from rfl, show (2 : Int).toNat = 2 from rfl, show (3 : Int).toNat = 3 from rfl, show (4 : Int).toNat = 4 from rfl, show (5 : Int).toNat = 5 from rfl, show (6 : Int).toNat = 6 from rfl, show (7 : Int).toNat = 7 from rfl, List.getElem?_cons_zero, List.getElem?_cons_succ, Option.bind_some, r6, r11, r25, r2, r13, r22, ot (show (0 : Int) ≤ (i : Int) ∧ (i : Int) < ((64 : Nat) : Int) by omega), Int.toNat_natCast, ci_get (show i < KN.length by rw [KN_len]; exact h), ci_get (show i < W.length by omega), rep8, List.set_cons_zero, List.set_cons_succ,
          e_bS1 he, e_ch he hf hg, e_rx, e_bS0 ha, e_ma ha hb hc, e_ry, e1]
        simp only [e_add]
      · rw [← hr, show 64 - i = (64 - (i + 1)) + 1 by omega]; rfl
    · left
      have : i = 64 := by omega
      subst this
      have hr' : T = rds W 64 0 S := hr
      exact ⟨_, by simp only [jobberref1_Sha_l20, of_ (show ¬ ((64 : Nat) : Int) < 64 by omega), cond_false]; rfl, by rw [← hr']⟩)
  obtain ⟨r, hr, rfl⟩ := key (((), m, (), (), a, (), (), 0, ()), (X, h, ci KN, ci W, ci (lst S), ())) ⟨0, S, rfl, by omega, hS, rfl⟩
  exact hr
theorem ref_sums (m : List Int) (at_ : Int) (X : List Int) (S T : S8) : loopFix jobberref1_Sha_l26 (((), m, (), (), at_, (), 0, ()), (X, ci (lst S), ci KN, ci (lst T), ())) = some (((), m, (), (), at_, ()), (X, ci (lst (addS S T)), ci KN, ci (lst T), ())) := by
  obtain ⟨a, b, c, d, e, f, g, k⟩ := S
  obtain ⟨a', b', c', d', e', f', g', k'⟩ := T
  have ht : ∀ a b c d e f g k : Nat, ci (lst (a, b, c, d, e, f, g, k)) = [(a : Int), (b : Int), (c : Int), (d : Int), (e : Int), (f : Int), (g : Int), (k : Int)] := fun _ _ _ _ _ _ _ _ => rfl
  simp only [addS, ht]
  have w0 : wr .i64 (0 + 1) = 1 := wr64 (by omega) (by omega)
  have w1 : wr .i64 (1 + 1) = 2 := wr64 (by omega) (by omega)
  have w2 : wr .i64 (2 + 1) = 3 := wr64 (by omega) (by omega)
  have w3 : wr .i64 (3 + 1) = 4 := wr64 (by omega) (by omega)
  have w4 : wr .i64 (4 + 1) = 5 := wr64 (by omega) (by omega)
  have w5 : wr .i64 (5 + 1) = 6 := wr64 (by omega) (by omega)
  have w6 : wr .i64 (6 + 1) = 7 := wr64 (by omega) (by omega)
  have w7 : wr .i64 (7 + 1) = 8 := wr64 (by omega) (by omega)
  iterate 9 (rw [loopFix_eq]; simp only [jobberref1_Sha_l26, ot (show (0 : Int) < 8 by omega), ot (show (1 : Int) < 8 by omega), ot (show (2 : Int) < 8 by omega), ot (show (3 : Int) < 8 by omega), ot (show (4 : Int) < 8 by omega), ot (show (5 : Int) < 8 by omega), ot (show (6 : Int) < 8 by omega), ot (show (7 : Int) < 8 by omega), of_ (show ¬ (8 : Int) < 8 by omega), cond_true, cond_false, ot (show (0 : Int) ≤ 0 ∧ (0 : Int) < ((8 : Nat) : Int) by omega), ot (show (0 : Int) ≤ 1 ∧ (1 : Int) < ((8 : Nat) : Int) by omega), ot (show (0 : Int) ≤ 2 ∧ (2 : Int) < ((8 : Nat) : Int) by omega), ot (show (0 : Int) ≤ 3 ∧ (3 : Int) < ((8 : Nat) : Int) by omega), ot (show (0 : Int) ≤ 4 ∧ (4 : Int) < ((8 : Nat) : Int) by omega), ot (show (0 : Int) ≤ 5 ∧ (5 : Int) < ((8 : Nat) : Int) by omega), ot (show (0 : Int) ≤ 6 ∧ (6 : Int) < ((8 : Nat) : Int) by omega), ot (show (0 : Int) ≤ 7 ∧ (7 : Int) < ((8 : Nat) : Int) by omega),
    show (0 : Int).toNat = 0 from rfl, show (1 : Int).toNat = 1 from rfl, show (2 : Int).toNat = 2 from rfl, show (3 : Int).toNat = 3 from rfl, show (4 : Int).toNat = 4 from rfl, show (5 : Int).toNat = 5 from rfl, show (6 : Int).toNat = 6 from rfl, show (7 : Int).toNat = 7 from rfl, List.getElem?_cons_zero, List.getElem?_cons_succ, Option.bind_some, List.set_cons_zero, List.set_cons_succ, e_add, w0, w1, w2, w3, w4, w5, w6, w7])
theorem ref_blocks (m : List Nat) (hm : ∀ x ∈ m, x < 256) (hl : m.length ≤ 2000000) (h0 : m.length % 64 = 0) (X : List Int) (S : S8) (hS : P8 S) : loopFix jobberref1_Sha_l8 (((), ci m, (), (), 0, ()), (X, ci (lst S), ci KN, ())) = some (((), (), ()), (X, ci (lst (run S m).1), ci KN, ())) := by
  have key := loop_ind (b := jobberref1_Sha_l8) (fun d => ∃ (a : Nat) (T : S8), d = (((), ci m, (), (), (a : Int), ()), (X, ci (lst T), ci KN, ())) ∧ a ≤ m.length ∧ a % 64 = 0 ∧ P8 T ∧ run T (m.drop a) = run S m) (fun r => r = (((), (), ()), (X, ci (lst (run S m).1), ci KN, ()))) (fun d => m.length - d.1.2.2.2.2.1.toNat) (by
    rintro d ⟨a, T, rfl, ha, ha0, hT, hr⟩
    by_cases h : a < m.length
    · right
      have e1 : wr .i64 ((a : Int) + 64) = ((a + 64 : Nat) : Int) := by rw [wr64 (by omega) (by omega)]; omega
      have g1 := ref_sched m hm a (by omega) hl X (ci (lst T)) (ci KN)
      have g2 := ref_rounds (ci m) (a : Int) X (ci (lst T)) (sched ((m.drop a).take 64)) (sched_len _) T hT
      have g3 := ref_sums (ci m) (a : Int) X T (rds (sched ((m.drop a).take 64)) 64 0 T)
      refine ⟨(((), ci m, (), (), ((a + 64 : Nat) : Int), ()), (X, ci (lst (comp T ((m.drop a).take 64))), ci KN, ())), ?_, ⟨a + 64, _, rfl, by omega, by omega, P8.addS _ _, ?_⟩, by simp only; omega⟩
      · simp only [jobberref1_Sha_l8, ot (show (a : Int) < ((ci m).length : Int) by rw [ci_len]; omega), cond_true, g1, Option.bind_some, g2, g3, e1]
        rfl
      · rw [← hr, run_go (m := m.drop a) (by rw [List.length_drop]; omega), List.drop_drop]
    · left
      have : a = m.length := by omega
      subst this
      rw [List.drop_length, run_few (by simp)] at hr
      refine ⟨_, by simp only [jobberref1_Sha_l8, of_ (show ¬ ((m.length : Nat) : Int) < ((ci m).length : Int) by rw [ci_len]; omega), cond_false]; rfl, ?_⟩
      rw [← hr])
  obtain ⟨r, hr, rfl⟩ := key (((), ci m, (), (), 0, ()), (X, ci (lst S), ci KN, ())) ⟨0, S, rfl, by omega, rfl, hS, rfl⟩
  exact hr
theorem ref_out (X : List Int) (S : S8) : loopFix jobberref1_Sha_l32 (((), (), ci (lst S), 0, ()), (X, List.replicate 32 (0 : Int), ())) = some (((), (), ()), (X, ci (outN S), ())) := by
  have hl : (lst S).length = 8 := rfl
  have key := loop_ind (b := jobberref1_Sha_l32) (fun d => ∃ i : Nat, d = (((), (), ci (lst S), (i : Int), ()), (X, ci (outA (lst S) i) ++ List.replicate (32 - 4 * i) (0 : Int), ())) ∧ i ≤ 8) (fun r => r = (((), (), ()), (X, ci (outN S), ()))) (fun d => 8 - d.1.2.2.2.1.toNat) (by
    rintro d ⟨i, rfl, hi⟩
    by_cases h : i < 8
    · right
      have e1 : wr .i64 ((i : Int) + 1) = ((i + 1 : Nat) : Int) := by rw [wr64 (by omega) (by omega)]; omega
      have e2 : wr .i64 (4 * (i : Int)) = ((4 * i : Nat) : Int) := by rw [wr64 (by omega) (by omega)]; omega
      have e3 : wr .i64 (((4 * i : Nat) : Int) + 1) = ((4 * i + 1 : Nat) : Int) := by rw [wr64 (by omega) (by omega)]; omega
      have e4 : wr .i64 (((4 * i : Nat) : Int) + 2) = ((4 * i + 2 : Nat) : Int) := by rw [wr64 (by omega) (by omega)]; omega
      have e5 : wr .i64 (((4 * i : Nat) : Int) + 3) = ((4 * i + 3 : Nat) : Int) := by rw [wr64 (by omega) (by omega)]; omega
      obtain ⟨q0, q1, q2, q3, q4, q5, q6, q7⟩ := quad (outA (lst S) i) (32 - 4 * (i + 1)) ((lst S).getD i 0)
      rw [outA_len] at q0 q1 q2 q3 q4 q5 q6 q7
      refine ⟨(((), (), ci (lst S), ((i + 1 : Nat) : Int), ()), (X, ci (outA (lst S) (i + 1)) ++ List.replicate (32 - 4 * (i + 1)) (0 : Int), ())), ?_, ⟨i + 1, rfl, h⟩, by simp only; omega⟩
      rw [outA_succ, show 32 - 4 * i = 32 - 4 * (i + 1) + 4 by omega]
      simp only [jobberref1_Sha_l32, ot (show (i : Int) < 8 by omega), cond_true, ot (show (0 : Int) ≤ (i : Int) ∧ (i : Int) < ((8 : Nat) : Int) by omega), Int.toNat_natCast, ci_get (show i < (lst S).length by omega), Option.bind_some, of_ (show ¬ (24 : Int) < 0 by omega), of_ (show ¬ (16 : Int) < 0 by omega), of_ (show ¬ (8 : Int) < 0 by omega), cond_false, e2, e3, e4, e5, byte24, byte16, byte8, wr8n,
        ot (show (0 : Int) ≤ ((4 * i : Nat) : Int) ∧ ((4 * i : Nat) : Int) < ((32 : Nat) : Int) by omega), ot (show (0 : Int) ≤ ((4 * i + 1 : Nat) : Int) ∧ ((4 * i + 1 : Nat) : Int) < ((32 : Nat) : Int) by omega), ot (show (0 : Int) ≤ ((4 * i + 2 : Nat) : Int) ∧ ((4 * i + 2 : Nat) : Int) < ((32 : Nat) : Int) by omega), ot (show (0 : Int) ≤ ((4 * i + 3 : Nat) : Int) ∧ ((4 * i + 3 : Nat) : Int) < ((32 : Nat) : Int) by omega), q0, q1, q2, q3, q4, q5, q6, q7, e1]
    · left
      have : i = 8 := by omega
      subst this
      refine ⟨_, by simp only [jobberref1_Sha_l32, of_ (show ¬ ((8 : Nat) : Int) < 8 by omega), cond_false]; rfl, ?_⟩
      have : outA (lst S) 8 = outN S := rfl
      rw [this]; simp)
  obtain ⟨r, hr, rfl⟩ := key (((), (), ci (lst S), 0, ()), (X, List.replicate 32 (0 : Int), ())) ⟨0, rfl, by omega⟩
  exact hr
theorem ref_pad (b : List Int) (X : List Int) (m : List Nat) (hm : m.length ≤ 1000001) : loopFix jobberref1_Sha_l2 ((b, (), (), ()), (X, ci m, ())) = some ((b, (), ci (m ++ List.replicate (zn m.length) 0), ()), (X, ())) := by
  have key := loop_ind (b := jobberref1_Sha_l2) (fun x => ∃ j : Nat, x = ((b, (), (), ()), (X, ci (m ++ List.replicate j 0), ())) ∧ j ≤ zn m.length) (fun r => r = ((b, (), ci (m ++ List.replicate (zn m.length) 0), ()), (X, ()))) (fun x => zn m.length + m.length - x.2.2.1.length) (by
    rintro x ⟨j, rfl, hj⟩
    have hz := zn_lt m.length
    have e0 : (ci (m ++ List.replicate j 0)).length = m.length + j := by rw [ci_len]; simp
    have et : Int.tmod ((m.length + j : Nat) : Int) 64 = (((m.length + j) % 64 : Nat) : Int) := by rw [Int.tmod_eq_emod_of_nonneg (by omega)]; omega
    by_cases h : (m.length + j) % 64 = 56
    · left
      have := zn_min m.length j h hj
      subst this
      refine ⟨_, ?_, rfl⟩
      simp only [jobberref1_Sha_l2, of_ (show ¬ (64 : Int) = 0 by omega), cond_false, e0, et, ot (show (((m.length + zn m.length) % 64 : Nat) : Int) = 56 by omega), Bool.not_true]
    · right
      have hlt : j < zn m.length := by
        rcases Nat.lt_or_eq_of_le hj with h1 | h1
        · exact h1
        · subst h1; exact absurd (zn_ok m.length) h
      have e1 : odec (((m.length + j + ([0] : List Int).length : Nat) : Int) * ((1 : Nat) : Int) ≤ (room : Nat)) = true := inRoom (by simp only [List.length_cons, List.length_nil]; omega)
      have e2 : ci (m ++ List.replicate j 0) ++ ([0] : List Int) = ci (m ++ List.replicate (j + 1) 0) := by
        rw [List.replicate_succ', ← List.append_assoc, ci_app (m ++ List.replicate j 0)]; rfl
      refine ⟨((b, (), (), ()), (X, ci (m ++ List.replicate (j + 1) 0), ())), ?_, ⟨j + 1, rfl, hlt⟩, ?_⟩
      · simp only [jobberref1_Sha_l2, of_ (show ¬ (64 : Int) = 0 by omega), cond_false, e0, et, of_ (show ¬ (((m.length + j) % 64 : Nat) : Int) = 56 by omega), Bool.not_false, cond_true, e1, e2]
      · simp only [e0]
        rw [ci_len]; simp only [List.length_append, List.length_replicate]; omega)
  obtain ⟨r, hr, rfl⟩ := key ((b, (), (), ()), (X, ci m, ())) ⟨0, by simp, by omega⟩
  exact hr
theorem refU32 (m : List Nat) (x : Nat) (hm : m.length ≤ 2000000) : jobberref1_U32 ((ci m, (x : Int), ()), ()) = some (((), ()), (ci (m ++ be4 x), ())) := by
  have e1 : odec (((([] : List Int).length + (ci m).length : Nat) : Int) * ((1 : Nat) : Int) ≤ (room : Nat)) = true := inRoom (by rw [ci_len, List.length_nil]; omega)
  have e2 : ∀ a b c d : Int, odec ((((ci m).length + ([a, b, c, d] : List Int).length : Nat) : Int) * ((1 : Nat) : Int) ≤ (room : Nat)) = true := fun a b c d => inRoom (by rw [ci_len]; simp only [List.length_cons, List.length_nil]; omega)
  simp only [jobberref1_U32, e1, cond_true, of_ (show ¬ (24 : Int) < 0 by omega), of_ (show ¬ (16 : Int) < 0 by omega), of_ (show ¬ (8 : Int) < 0 by omega), cond_false, List.nil_append, e2, byte24, byte16, byte8, wr8n, ci_app]
  rfl
theorem refU64 (m : List Nat) (v : Nat) (hv : v < M32) (hm : m.length ≤ 1500000) : jobberref1_U64 ((ci m, (v : Int), ()), ()) = some (((), ()), (ci (m ++ be64 v), ())) := by
  have e1 : shr .u64 (v : Int) 32 = ((v >>> 32 : Nat) : Int) := shr_nat .u64 v 32 (by decide)
  have e2 : v >>> 32 = 0 := by
    rw [Nat.shiftRight_eq_div_pow]; exact Nat.div_eq_of_lt hv
  have g1 := refU32 m 0 (by omega)
  have g2 := refU32 (m ++ be4 0) v (by rw [List.length_append, show (be4 0).length = 4 from rfl]; omega)
  have e3 : wr .u32 ((0 : Nat) : Int) = ((0 : Nat) : Int) := wr32_id (by decide)
  have e4 : m ++ be4 0 ++ be4 v = m ++ be64 v := by rw [List.append_assoc]; rfl
  simp only [jobberref1_U64, of_ (show ¬ (32 : Int) < 0 by omega), cond_false, e1, e2, e3, g1, Option.bind_some, wr32_id hv, g2, e4]
theorem refSha_ok (w : List Nat) (hw : ∀ x ∈ w, x < 256) (hl : w.length ≤ 1000000) : jobberref1_Sha ((ci w, ()), ()) = some ((ci (shaN w), ()), ()) := by
  have e0 : odec (((([] : List Int).length + (ci w).length : Nat) : Int) * ((1 : Nat) : Int) ≤ (room : Nat)) = true := inRoom (by rw [ci_len, List.length_nil]; omega)
  have e1 : odec ((((ci w).length + ([128] : List Int).length : Nat) : Int) * ((1 : Nat) : Int) ≤ (room : Nat)) = true := inRoom (by rw [ci_len, List.length_cons, List.length_nil]; omega)
  have e2 : ci w ++ ([128] : List Int) = ci (w ++ [128]) := by rw [ci_app]; rfl
  have p1 := ref_pad (ci w) (List.replicate 32 (0 : Int)) (w ++ [128]) (by simp; omega)
  have hz : (w ++ [128]).length = w.length + 1 := by simp
  rw [hz] at p1
  have zl := zn_lt (w.length + 1)
  have ev : wr .u64 (8 * wr .u64 ((ci w).length : Int)) = ((8 * w.length : Nat) : Int) := by rw [ci_len]; simp only [wr_eq, IntKind.wrap_u64]; omega
  have p2 := refU64 (w ++ [128] ++ List.replicate (zn (w.length + 1)) 0) (8 * w.length) (by simp only [M32]; omega) (by simp only [List.length_append, List.length_replicate, List.length_cons, List.length_nil]; omega)
  have hm : w ++ [128] ++ List.replicate (zn (w.length + 1)) 0 ++ be64 (8 * w.length) = w ++ pad w.length := by simp only [pad, List.append_assoc]
  rw [hm] at p2
  have hml : (w ++ pad w.length).length % 64 = 0 ∧ (w ++ pad w.length).length ≤ 2000000 := by
    have := zn_ok (w.length + 1)
    have l8 : (be64 (8 * w.length)).length = 8 := rfl
    simp only [pad, List.length_append, List.length_replicate, List.length_cons, List.length_nil, l8]
    omega
  have hmb : ∀ x ∈ w ++ pad w.length, x < 256 := by
    intro x hx
    rcases List.mem_append.1 hx with h | h
    · exact hw x h
    · simp only [pad, be64, List.mem_append, List.mem_replicate] at h
      rcases h with h | h | h | h
      · simp at h; omega
      · omega
      · simp at h; omega
      · exact be4_lt _ x h
  have p3 := ref_blocks _ hmb hml.2 hml.1 (List.replicate 32 (0 : Int)) H0 H0_P8
  have p4 := ref_out (List.replicate 32 (0 : Int)) (run H0 (w ++ pad w.length)).1
  have hk : jobberref1_words ((), ()) = some ((ci KN, ()), ()) := rfl
  have hh : ((((((((List.replicate 8 (0 : Int)).set 0 1779033703).set 1 3144134277).set 2 1013904242).set 3 2773480762).set 4 1359893119).set 5 2600822924).set 6 528734635).set 7 1541459225 = ci (lst H0) := rfl
  simp only [jobberref1_Sha, e0, cond_true, List.nil_append, e1, e2, p1, Option.bind_some, ev, p2, hk, hh, p3, p4]
  rfl
/-! ### bytes that come in -/
theorem bytes_of {l : List Int} (h : ∀ x ∈ l, 0 ≤ x ∧ x ≤ 255) : ∃ bs : List Nat, l = ci bs ∧ ∀ x ∈ bs, x < 256 := by
  induction l with
  | nil => exact ⟨[], rfl, by simp⟩
  | cons a l ih =>
    obtain ⟨bs, h1, h2⟩ := ih fun x hx => h x (List.mem_cons_of_mem _ hx)
    have ha := h a (List.mem_cons_self ..)
    refine ⟨a.toNat :: bs, ?_, fun x hx => ?_⟩
    · rw [h1, ci, ci, List.map_cons, Int.toNat_of_nonneg ha.1]
    · rcases List.mem_cons.1 hx with rfl | hx
      · omega
      · exact h2 x hx
theorem rng8 {x : Int} (h : Rng (.int .u8) x) : 0 ≤ x ∧ x ≤ 255 := h
theorem rng_bytes {l : List Int} (h : Rng (.deep (.int .u8)) l) : ∃ bs : List Nat, l = ci bs ∧ ∀ x ∈ bs, x < 256 := bytes_of fun x hx => rng8 (h.2 x hx)
theorem zip_all : ∀ a b : List Int, a.length = b.length → ((a.zip b).all fun p => teq (.int .u8) p.1 p.2) = odec (a = b)
  | [], [], _ => (ot rfl).symm
  | [], _ :: _, h => by simp at h
  | _ :: _, [], h => by simp at h
  | x :: a, y :: b, h => by
    have ih := zip_all a b (by simpa using h)
    simp only [List.zip_cons_cons, List.all_cons, ih]
    show (odec (x = y) && odec (a = b)) = _
    by_cases e : x = y
    · by_cases e2 : a = b
      · rw [ot e, ot e2, ot (by rw [e, e2])]; rfl
      · rw [of_ e2, of_ (fun h => e2 (List.cons.inj h).2), Bool.and_false]
    · rw [of_ e, of_ (fun h => e (List.cons.inj h).1), Bool.false_and]
theorem zip_self (a : List Int) : ((a.zip a).all fun p => teq (.int .u8) p.1 p.2) = true := by rw [zip_all a a rfl, ot rfl]
/-! ### HMAC, plainly -/
def keyN (key : List Nat) : List Nat := if 64 < key.length then shaN key else key
def padN (key : List Nat) : List Nat := keyN key ++ List.replicate (64 - (keyN key).length) 0
def xo (n : Nat) (l : List Nat) : List Nat := l.map (fun x => x ^^^ n)
def macN (key b : List Nat) : List Nat := shaN (xo 92 (padN key) ++ shaN (xo 54 (padN key) ++ b))
theorem keyN_le (key : List Nat) : (keyN key).length ≤ 64 := by
  unfold keyN; split
  · rw [sha_len]; omega
  · omega
theorem padN_len (key : List Nat) : (padN key).length = 64 := by
  have := keyN_le key
  rw [padN, List.length_append, List.length_replicate]; omega
theorem xo_len (n : Nat) (l : List Nat) : (xo n l).length = l.length := by simp [xo]
theorem keyN_lt {key : List Nat} (h : ∀ x ∈ key, x < 256) : ∀ x ∈ keyN key, x < 256 := by
  unfold keyN; split
  · exact sha_lt key
  · exact h
theorem padN_lt {key : List Nat} (h : ∀ x ∈ key, x < 256) : ∀ x ∈ padN key, x < 256 := by
  intro x hx
  rcases List.mem_append.1 hx with hx | hx
  · exact keyN_lt h x hx
  · rw [List.mem_replicate] at hx; omega
theorem xor256 {x n : Nat} (hx : x < 256) (hn : n < 256) : x ^^^ n < 256 := Nat.xor_lt_two_pow (n := 8) hx hn
theorem xo_lt {n : Nat} (hn : n < 256) {l : List Nat} (h : ∀ x ∈ l, x < 256) : ∀ x ∈ xo n l, x < 256 := by
  intro x hx
  obtain ⟨y, hy, rfl⟩ := List.mem_map.1 hx
  exact xor256 (h y hy) hn
theorem macN_len (key b : List Nat) : (macN key b).length = 32 := rfl
theorem macN_lt (key b : List Nat) : ∀ x ∈ macN key b, x < 256 := sha_lt _
theorem bv8 {x : Nat} (hx : x < 256) : (BitVec.ofInt 8 (x : Int)).toNat = x := by rw [BitVec.toNat_ofInt]; omega
theorem bxor8 {x y : Nat} (hx : x < 256) (hy : y < 256) : bxor .u8 (x : Int) (y : Int) = ((x ^^^ y : Nat) : Int) := by
  have : (BitVec.ofInt IntKind.u8.bits (x : Int) ^^^ BitVec.ofInt IntKind.u8.bits (y : Int)).toNat = x ^^^ y := by
    show (BitVec.ofInt 8 (x : Int) ^^^ BitVec.ofInt 8 (y : Int)).toNat = x ^^^ y
    rw [BitVec.toNat_xor, bv8 hx, bv8 hy]
  rw [bxor, this, wr8n, Nat.mod_eq_of_lt (xor256 hx hy)]
theorem bor8 {x y : Nat} (hx : x < 256) (hy : y < 256) : bor .u8 (x : Int) (y : Int) = ((x ||| y : Nat) : Int) := by
  have : (BitVec.ofInt IntKind.u8.bits (x : Int) ||| BitVec.ofInt IntKind.u8.bits (y : Int)).toNat = x ||| y := by
    show (BitVec.ofInt 8 (x : Int) ||| BitVec.ofInt 8 (y : Int)).toNat = x ||| y
    rw [BitVec.toNat_or, bv8 hx, bv8 hy]
  rw [bor, this, wr8n, Nat.mod_eq_of_lt (Nat.or_lt_two_pow (n := 8) hx hy)]
theorem x92 {x : Nat} (hx : x < 256) : bxor .u8 (x : Int) 92 = ((x ^^^ 92 : Nat) : Int) := bxor8 hx (y := 92) (by omega)
theorem x54 {x : Nat} (hx : x < 256) : bxor .u8 (x : Int) 54 = ((x ^^^ 54 : Nat) : Int) := bxor8 hx (y := 54) (by omega)
theorem rep_ci (n : Nat) : List.replicate n (0 : Int) = ci (List.replicate n 0) := by simp [ci]
/-! ### the program's -/
abbrev mob (d m : Int) (out ins : List Int) : Unit × (Unit × (Unit × Int × Unit) × (Unit × (Int × Int × Unit) × Unit) × Unit) × (List Int) × (List Int) × Unit := ((), ((), ((), d, ()), ((), (m, 0, ()), ()), ()), out, ins, ())
abbrev ms (c : Bool) (key : List Nat) := mob (bif c then 1 else 0) 0 (bif c then ci (xo 92 (padN key)) else List.replicate 64 (0 : Int)) (bif c then ci (xo 54 (padN key)) else List.replicate 64 (0 : Int))
theorem macNew_ok (key : List Nat) (h : key.length ≤ 1000000) : mac_New ((ci key, ()), ()) = some (((), ()), (ms false key, ci key, ())) := by
  simp only [mac_New, clone_ok (ci key) (by rw [ci_len]; omega), Option.bind_some]
  rfl
theorem xo_take (n : Nat) (P : List Nat) (i : Nat) (h : i < P.length) : xo n (P.take (i + 1)) = xo n (P.take i) ++ [P.getD i 0 ^^^ n] := by
  have e : P.getD i 0 = P[i] := by simp [List.getD_eq_getElem?_getD, List.getElem?_eq_getElem h]
  rw [e, xo, xo, List.take_add_one, List.getElem?_eq_getElem h, List.map_append]
  rfl
theorem pads_loop (P : List Nat) (hP : P.length = 64) (hb : ∀ x ∈ P, x < 256) (d m : Int) (K : List Int) : loopFix mac_Mac_pads_l7 (((), ci P, 0, ()), (mob d m (List.replicate 64 (0 : Int)) (List.replicate 64 (0 : Int)), K, ())) = some ((), (mob d m (ci (xo 92 P)) (ci (xo 54 P)), K, ())) := by
  have key := loop_ind (b := mac_Mac_pads_l7) (fun x => ∃ i : Nat, x = (((), ci P, (i : Int), ()), (mob d m (ci (xo 92 (P.take i)) ++ List.replicate (64 - i) (0 : Int)) (ci (xo 54 (P.take i)) ++ List.replicate (64 - i) (0 : Int)), K, ())) ∧ i ≤ 64) (fun r => r = ((), (mob d m (ci (xo 92 P)) (ci (xo 54 P)), K, ()))) (fun x => 64 - x.1.2.2.1.toNat) (by
    rintro x ⟨i, rfl, hi⟩
    by_cases h : i < 64
    · right
      have e1 : wr .i64 ((i : Int) + 1) = ((i + 1 : Nat) : Int) := by rw [wr64 (by omega) (by omega)]; omega
      have g : P.getD i 0 < 256 := getD_lt (by omega) hb i
      have hr : 64 - i = (64 - (i + 1)) + 1 := by omega
      have l1 : ∀ n, (xo n (P.take i)).length = i := fun n => by rw [xo_len, List.length_take]; omega
      have s1 := fill_at (xo 92 (P.take i)) (64 - (i + 1))
      have s2 := fill_set (xo 92 (P.take i)) (64 - (i + 1)) (P.getD i 0 ^^^ 92)
      have s3 := fill_at (xo 54 (P.take i)) (64 - (i + 1))
      have s4 := fill_set (xo 54 (P.take i)) (64 - (i + 1)) (P.getD i 0 ^^^ 54)
      rw [l1] at s1 s2 s3 s4
      refine ⟨(((), ci P, ((i + 1 : Nat) : Int), ()), (mob d m (ci (xo 92 (P.take (i + 1))) ++ List.replicate (64 - (i + 1)) (0 : Int)) (ci (xo 54 (P.take (i + 1))) ++ List.replicate (64 - (i + 1)) (0 : Int)), K, ())), ?_, ⟨i + 1, rfl, by omega⟩, by simp only; omega⟩
      rw [xo_take 92 P i (by omega), xo_take 54 P i (by omega), hr]
      simp only [mac_Mac_pads_l7, mob, ot (show (i : Int) < 64 by omega), cond_true, ot (show (0 : Int) ≤ (i : Int) ∧ (i : Int) < ((64 : Nat) : Int) by omega), Int.toNat_natCast, ci_get (show i < P.length by omega), Option.bind_some, s1, s3, x92 g, x54 g, s2, s4, e1]
    · left
      have : i = 64 := by omega
      subst this
      refine ⟨_, by simp only [mac_Mac_pads_l7, mob, of_ (show ¬ ((64 : Nat) : Int) < 64 by omega), cond_false]; rfl, ?_⟩
      rw [List.take_of_length_le (by omega)]; simp)
  obtain ⟨r, hr, rfl⟩ := key (((), ci P, 0, ()), (mob d m (List.replicate 64 (0 : Int)) (List.replicate 64 (0 : Int)), K, ())) ⟨0, rfl, by omega⟩
  exact hr
theorem t320 : (((32 : Nat) : Int) - (0 : Int)).toNat = 32 := rfl
theorem t640' : (((64 : Nat) : Int) - (0 : Int)).toNat = 64 := rfl
theorem b032 : odec (0 ≤ (0 : Int) ∧ (0 : Int) ≤ ((32 : Nat) : Int) ∧ ((32 : Nat) : Int) ≤ ((32 : Nat) : Int)) = true := ot (by omega)
theorem b064 : odec (0 ≤ (0 : Int) ∧ (0 : Int) ≤ ((64 : Nat) : Int) ∧ ((64 : Nat) : Int) ≤ ((64 : Nat) : Int)) = true := ot (by omega)
theorem cut32 {x : List Nat} (h : x.length = 32) : ((ci x).drop 0).take 32 = ci x := by rw [List.drop_zero, ci_take, List.take_of_length_le (by omega)]
theorem cut64 {x : List Nat} (h : x.length = 64) : ((ci x).drop 0).take 64 = ci x := by rw [List.drop_zero, ci_take, List.take_of_length_le (by omega)]
theorem laid (k : List Nat) (h : k.length ≤ 64) : (List.replicate 64 (0 : Int)).take 0 ++ ((ci k).take 64 ++ (List.replicate 64 (0 : Int)).drop (0 + min (ci k).length 64)) = ci (k ++ List.replicate (64 - k.length) 0) := by
  rw [ci_len, ci_take, List.take_of_length_le (l := k) h, List.take_zero, List.nil_append, Nat.zero_add, Nat.min_eq_left h, List.drop_replicate, ci_app, rep_ci]
theorem pads_ok (key : List Nat) (hb : ∀ x ∈ key, x < 256) (hl : key.length ≤ 1000000) (d m : Int) : mac_Mac_pads (((), ()), (mob d m (List.replicate 64 (0 : Int)) (List.replicate 64 (0 : Int)), ci key, ())) = some ((), (mob d m (ci (xo 92 (padN key))) (ci (xo 54 (padN key))), ci key, ())) := by
  by_cases h : 64 < key.length
  · have e : keyN key = shaN key := by rw [keyN, if_pos h]
    have hp : padN key = shaN key ++ List.replicate (64 - (shaN key).length) 0 := by rw [padN, e]
    have g1 := shaSum_ok key hb hl
    have g2 := pads_loop (padN key) (padN_len key) (padN_lt hb) d m (ci key)
    rw [hp, ← laid (shaN key) (by rw [sha_len]; omega)] at g2
    rw [hp]
    simp only [mob] at g2 ⊢
    simp only [mac_Mac_pads, ot (show ((ci key).length : Int) > 64 by rw [ci_len]; omega), cond_true, g1, Option.bind_some, b032, b064, t320, t640', cut32 (sha_len key), g2]
  · have e : keyN key = key := by rw [keyN, if_neg h]
    have hp : padN key = key ++ List.replicate (64 - key.length) 0 := by rw [padN, e]
    have g2 := pads_loop (padN key) (padN_len key) (padN_lt hb) d m (ci key)
    rw [hp, ← laid key (by omega)] at g2
    rw [hp]
    simp only [mob] at g2 ⊢
    simp only [mac_Mac_pads, of_ (show ¬ ((ci key).length : Int) > 64 by rw [ci_len]; omega), cond_false, b064, cond_true, t640', g2, Option.bind_some]
theorem tagM_ok (c : Bool) (key b : List Nat) (hk : ∀ x ∈ key, x < 256) (hb : ∀ x ∈ b, x < 256) (lk : key.length ≤ 1000000) (lb : b.length ≤ 100000) : mac_Mac_Tag (((), ci b, ()), (ms c key, ci key, ())) = some ((ci (macN key b), ()), (ms true key, ci key, ())) := by
  have lp : ∀ n, (xo n (padN key)).length = 64 := fun n => by rw [xo_len, padN_len]
  have hp : ∀ n, n < 256 → ∀ x ∈ xo n (padN key), x < 256 := fun n hn => xo_lt hn (padN_lt hk)
  have c1 := concat_some (ci (xo 54 (padN key))) (ci b) (by rw [ci_len, lp]; omega) (by rw [ci_len, ci_len, lp]; omega)
  have s1 := shaSum_ok (xo 54 (padN key) ++ b) (fun x hx => (List.mem_append.1 hx).elim (hp 54 (by omega) x) (hb x)) (by rw [List.length_append, lp]; omega)
  have c2 := concat_some (ci (xo 92 (padN key))) (ci (shaN (xo 54 (padN key) ++ b))) (by rw [ci_len, lp]; omega) (by rw [ci_len, ci_len, lp, sha_len]; omega)
  have s2 := shaSum_ok (xo 92 (padN key) ++ shaN (xo 54 (padN key) ++ b)) (fun x hx => (List.mem_append.1 hx).elim (hp 92 (by omega) x) (sha_lt _ x)) (by rw [List.length_append, lp, sha_len]; omega)
  rw [ci_app] at s1 s2
  have k1 := cut64 (lp 54)
  have k2 := cut64 (lp 92)
  have k3 := cut32 (sha_len (xo 54 (padN key) ++ b))
  cases c with
  | true =>
    simp only [ms, mob, cond_true]
    simp only [mac_Mac_Tag, of_ (show ¬ (1 : Int) = 0 by omega), cond_false, b064, b032, cond_true, t320, t640', k1, k2, c1, Option.bind_some, List.take_length, s1, k3, c2, s2]
    rfl
  | false =>
    have p := pads_ok key hk lk 0 1
    simp only [ms, mob, cond_true, cond_false] at p ⊢
    simp only [mac_Mac_Tag, ot (show (0 : Int) = 0 from rfl), cond_true, p, Option.bind_some, ot (show (1 : Int) = 1 from rfl), odT, b064, b032, t320, t640', k1, k2, c1, List.take_length, s1, k3, c2, s2]
    rfl
theorem xor_zero_iff (a b : Nat) : a ^^^ b = 0 ↔ a = b := by
  constructor
  · intro h
    have := congrArg (fun x => x ^^^ b) h
    simp only [Nat.xor_assoc, Nat.xor_self, Nat.xor_zero, Nat.zero_xor] at this
    exact this
  · rintro rfl; exact Nat.xor_self _
theorem equal_ok (a b : List Nat) (ha : a.length = 32) (hb : b.length = 32) (xa : ∀ x ∈ a, x < 256) (xb : ∀ x ∈ b, x < 256) : mac_Equal ((ci a, ci b, ()), ()) = some ((odec (ci a = ci b), ()), ()) := by
  have key := loop_ind (b := mac_Equal_l3) (fun d => ∃ (i n : Nat), d = (((), (), (n : Int), (i : Int), ()), (ci a, ci b, ())) ∧ i ≤ 32 ∧ n < 256 ∧ (n = 0 ↔ a.take i = b.take i)) (fun r => ∃ n : Nat, r = (((n : Int), ()), (ci a, ci b, ())) ∧ (n = 0 ↔ a = b)) (fun d => 32 - d.1.2.2.2.1.toNat) (by
    rintro d ⟨i, n, rfl, hi, hn, hq⟩
    by_cases h : i < 32
    · right
      have e1 : wr .i64 ((i : Int) + 1) = ((i + 1 : Nat) : Int) := by rw [wr64 (by omega) (by omega)]; omega
      have ga := getD_lt (n := 256) (by omega) xa i
      have gb := getD_lt (n := 256) (by omega) xb i
      refine ⟨(((), (), ((n ||| (a.getD i 0 ^^^ b.getD i 0) : Nat) : Int), ((i + 1 : Nat) : Int), ()), (ci a, ci b, ())), ?_, ⟨i + 1, _, rfl, by omega, Nat.or_lt_two_pow (n := 8) hn (xor256 ga gb), ?_⟩, by simp only; omega⟩
      · simp only [mac_Equal_l3, ot (show (i : Int) < 32 by omega), cond_true, ot (show (0 : Int) ≤ (i : Int) ∧ (i : Int) < ((32 : Nat) : Int) by omega), Int.toNat_natCast, ci_get (show i < a.length by omega), ci_get (show i < b.length by omega), Option.bind_some, bxor8 ga gb, bor8 hn (xor256 ga gb), e1]
      · rw [Nat.or_eq_zero_iff, xor_zero_iff, hq, List.take_add_one, List.take_add_one, List.getElem?_eq_getElem (show i < a.length by omega), List.getElem?_eq_getElem (show i < b.length by omega), List.getD_eq_getElem?_getD, List.getD_eq_getElem?_getD, List.getElem?_eq_getElem (show i < a.length by omega), List.getElem?_eq_getElem (show i < b.length by omega)]
        simp only [Option.getD_some, Option.toList_some]
        constructor
        · rintro ⟨h1, h2⟩; rw [h1, h2]
        · intro h1
          have := List.append_inj' h1 rfl
          exact ⟨this.1, by simpa using this.2⟩
    · left
      have : i = 32 := by omega
      subst this
      rw [List.take_of_length_le (by omega), List.take_of_length_le (by omega)] at hq
      exact ⟨_, by simp only [mac_Equal_l3, of_ (show ¬ ((32 : Nat) : Int) < 32 by omega), cond_false], n, rfl, hq⟩)
  obtain ⟨r, hr, n, rfl, hq⟩ := key (((), (), 0, 0, ()), (ci a, ci b, ())) ⟨0, 0, rfl, by omega, by omega, by simp⟩
  simp only [mac_Equal, hr, Option.bind_some]
  have : odec ((n : Int) = 0) = odec (ci a = ci b) := by
    by_cases h : a = b
    · rw [ot (show (n : Int) = 0 by have := hq.2 h; omega), ot (by rw [h])]
    · rw [of_ (show ¬ (n : Int) = 0 from fun e => h (hq.1 (by omega))), of_ (fun e => h (ci_inj e))]
  rw [this]
/-! ### a session, step by step -/
abbrev SV := Int × Int × List Int × Int × Int × Unit
abbrev zz : List Int := List.replicate 32 (0 : Int)
theorem s_new : session_New ((), ()) = some (((), ()), ((0, 0, zz, 0, 0, ()), ())) := rfl
theorem s_open (n nc : List Int) (t tr nx sn : Int) : session_Session_Open (((), n, t, ()), ((0, tr, nc, nx, sn, ()), ())) = some ((true, ()), ((1, 0, n, 0, t, ()), ())) := by
  simp only [session_Session_Open, odT, Bool.not_true, cond_false]
theorem s_open_no {a : Int} (h : a ≠ 0) (n nc : List Int) (t tr nx sn : Int) : session_Session_Open (((), n, t, ()), ((a, tr, nc, nx, sn, ()), ())) = some ((false, ()), ((a, tr, nc, nx, sn, ()), ())) := by
  simp only [session_Session_Open, of_ h, Bool.not_false, cond_true]
theorem s_hello (nc : List Int) (k t tr nx sn : Int) : session_Session_Hello (((), k, t, ()), ((1, tr, nc, nx, sn, ()), ())) = some ((true, ()), ((2, k, nc, nx, t, ()), ())) := by
  simp only [session_Session_Hello, odT, Bool.not_true, cond_false]
theorem s_hello_no {a : Int} (h : a ≠ 1) (nc : List Int) (k t tr nx sn : Int) : session_Session_Hello (((), k, t, ()), ((a, tr, nc, nx, sn, ()), ())) = some ((false, ()), ((a, tr, nc, nx, sn, ()), ())) := by
  simp only [session_Session_Hello, of_ h, Bool.not_false, cond_true]
theorem s_close (s : SV) : session_Session_Close (((), ()), (s, ())) = some ((), ((0, 0, zz, 0, 0, ()), ())) := rfl
theorem s_at (a tr : Int) (nc : List Int) (nx sn : Int) : session_Session_At (((), ()), ((a, tr, nc, nx, sn, ()), ())) = some ((a, ()), ((a, tr, nc, nx, sn, ()), ())) := rfl
theorem s_beat (nc : List Int) (t tr nx sn : Int) : session_Session_Beat (((), t, ()), ((3, tr, nc, nx, sn, ()), ())) = some ((true, ()), ((3, tr, nc, nx, t, ()), ())) := by
  simp only [session_Session_Beat, odT, Bool.not_true, cond_false]
theorem s_beat_no {a : Int} (h : a ≠ 3) (nc : List Int) (t tr nx sn : Int) : session_Session_Beat (((), t, ()), ((a, tr, nc, nx, sn, ()), ())) = some ((false, ()), ((a, tr, nc, nx, sn, ()), ())) := by
  simp only [session_Session_Beat, of_ h, Bool.not_false, cond_true]
theorem s_take_no {a : Int} (h : a ≠ 3) (nc : List Int) (n t tr nx sn : Int) : session_Session_Takes (((), n, t, ()), ((a, tr, nc, nx, sn, ()), ())) = some ((false, ()), ((a, tr, nc, nx, sn, ()), ())) := by
  simp only [session_Session_Takes, s_beat_no h, Option.bind_some, Bool.not_false, cond_true]
theorem s_take_other (nc : List Int) {n nx : Int} (h : n ≠ nx) (t tr sn : Int) : session_Session_Takes (((), n, t, ()), ((3, tr, nc, nx, sn, ()), ())) = some ((false, ()), ((3, tr, nc, nx, t, ()), ())) := by
  simp only [session_Session_Takes, s_beat, Option.bind_some, Bool.not_true, cond_false, of_ h, Bool.not_false, cond_true]
theorem s_take (nc : List Int) {nx : Int} (h0 : 0 ≤ nx) (h1 : nx < 1073741824) (t tr sn : Int) : session_Session_Takes (((), nx, t, ()), ((3, tr, nc, nx, sn, ()), ())) = some ((true, ()), ((3, tr, nc, nx + 1, t, ()), ())) := by
  have w : wr .i64 (nx + 1) = nx + 1 := wr64 (by omega) (by omega)
  simp only [session_Session_Takes, s_beat, Option.bind_some, Bool.not_true, cond_false, odT, of_ (show ¬ nx = 1073741824 by omega), w]
theorem s_trader {a : Int} (h : a = 2 ∨ a = 3) (tr : Int) (nc : List Int) (nx sn : Int) : session_Session_Trader (((), ()), ((a, tr, nc, nx, sn, ()), ())) = some ((tr, ()), ((a, tr, nc, nx, sn, ()), ())) := by
  rcases h with rfl | rfl
  · simp only [session_Session_Trader, odT, cond_true]
  · simp only [session_Session_Trader, of_ (show ¬ (3 : Int) = 2 by omega), cond_false, odT, cond_true]
theorem s_trader_no {a : Int} (h : ¬ a = 2) (h' : ¬ a = 3) (tr : Int) (nc : List Int) (nx sn : Int) : session_Session_Trader (((), ()), ((a, tr, nc, nx, sn, ()), ())) = some ((0, ()), ((a, tr, nc, nx, sn, ()), ())) := by
  simp only [session_Session_Trader, of_ h, of_ h', cond_false]
theorem s_nonce {a : Int} (h : a = 1 ∨ a = 2) (tr : Int) (nc : List Int) (nx sn : Int) : session_Session_Nonce (((), ()), ((a, tr, nc, nx, sn, ()), ())) = some ((nc, ()), ((a, tr, nc, nx, sn, ()), ())) := by
  rcases h with rfl | rfl
  · simp only [session_Session_Nonce, odT, cond_true]
  · simp only [session_Session_Nonce, of_ (show ¬ (2 : Int) = 1 by omega), cond_false, odT, cond_true]
theorem s_nonce_no {a : Int} (h : ¬ a = 1) (h' : ¬ a = 2) (tr : Int) (nc : List Int) (nx sn : Int) : session_Session_Nonce (((), ()), ((a, tr, nc, nx, sn, ()), ())) = some ((zz, ()), ((a, tr, nc, nx, sn, ()), ())) := by
  simp only [session_Session_Nonce, of_ h, of_ h', cond_false]
theorem s_late_no (tr : Int) (nc : List Int) (nx sn now k : Int) : session_Session_Late (((), now, k, ()), ((0, tr, nc, nx, sn, ()), ())) = some ((false, ()), ((0, tr, nc, nx, sn, ()), ())) := by
  simp only [session_Session_Late, odT, Bool.not_true, cond_false]
theorem s_late {a : Int} (h : ¬ a = 0) (tr : Int) (nc : List Int) (nx sn now k : Int) (h1 : -1000000 ≤ now - sn) (h2 : now - sn ≤ 1000000) : session_Session_Late (((), now, k, ()), ((a, tr, nc, nx, sn, ()), ())) = some ((odec (now - sn ≥ k), ()), ((a, tr, nc, nx, sn, ()), ())) := by
  have w : wr .i64 (now - sn) = now - sn := wr64 (by omega) (by omega)
  simp only [session_Session_Late, of_ h, Bool.not_false, cond_true, w]
/-! ### the tag -/
abbrev B32 (l : List Nat) : Prop := l.length = 32 ∧ ∀ x ∈ l, x < 256
theorem tag_ok {key nc : List Nat} (hk : B32 key) (hn : B32 nc) : jobberlaw20_tag ((ci key, ci nc, ()), ()) = some ((ci (macN key nc), ()), ()) := by
  have g1 := macNew_ok key (by have := hk.1; omega)
  have g2 := tagM_ok false key nc hk.2 hn.2 (by have := hk.1; omega) (by have := hn.1; omega)
  simp only [ms, mob, cond_false, cond_true] at g1 g2
  simp only [jobberlaw20_tag, b032, cond_true, t320, cut32 hk.1, cut32 hn.1, g1, Option.bind_some, g2]
theorem s_answer_no {a : Int} (h : ¬ a = 2) (k t nc : List Int) (now tr nx sn : Int) : session_Session_Answer (((), k, t, now, ()), ((a, tr, nc, nx, sn, ()), ())) = some ((false, ()), ((a, tr, nc, nx, sn, ()), ())) := by
  simp only [session_Session_Answer, of_ h, Bool.not_false, cond_true]
theorem s_answer_ne {key nc t : List Nat} (hk : B32 key) (hn : B32 nc) (ht : B32 t) (h : t ≠ macN key nc) (now tr nx sn : Int) : session_Session_Answer (((), ci key, ci t, now, ()), ((2, tr, ci nc, nx, sn, ()), ())) = some ((false, ()), ((0, 0, zz, 0, 0, ()), ())) := by
  have g1 := macNew_ok key (by have := hk.1; omega)
  have g2 := tagM_ok false key nc hk.2 hn.2 (by have := hk.1; omega) (by have := hn.1; omega)
  have g3 := equal_ok t (macN key nc) ht.1 (macN_len _ _) ht.2 (macN_lt _ _)
  rw [of_ (fun e => h (ci_inj e))] at g3
  simp only [ms, mob, cond_false, cond_true] at g1 g2
  simp only [session_Session_Answer, odT, Bool.not_true, cond_false, b032, cond_true, t320, cut32 hk.1, cut32 hn.1, g1, Option.bind_some, g2, g3, Bool.not_false, s_close]
theorem s_answer {key nc : List Nat} (hk : B32 key) (hn : B32 nc) (now tr nx sn : Int) : session_Session_Answer (((), ci key, ci (macN key nc), now, ()), ((2, tr, ci nc, nx, sn, ()), ())) = some ((true, ()), ((3, tr, zz, 1, now, ()), ())) := by
  have g1 := macNew_ok key (by have := hk.1; omega)
  have g2 := tagM_ok false key nc hk.2 hn.2 (by have := hk.1; omega) (by have := hn.1; omega)
  have g3 := equal_ok (macN key nc) (macN key nc) (macN_len _ _) (macN_len _ _) (macN_lt _ _) (macN_lt _ _)
  rw [ot rfl] at g3
  simp only [ms, mob, cond_false, cond_true] at g1 g2
  simp only [session_Session_Answer, odT, Bool.not_true, cond_false, b032, cond_true, t320, cut32 hk.1, cut32 hn.1, g1, Option.bind_some, g2, g3]
/-! ### the laws -/
theorem one_of (n : Nat) : (List.replicate 32 (0 : Int)).set 0 (n : Int) = ci ((List.replicate 32 0).set 0 n) := by rw [rep_ci, ci, ci, List.map_set]
theorem b32_of {n : Nat} (h : n < 256) : B32 ((List.replicate 32 0).set 0 n) := ⟨by simp, fun x hx => by
  rcases List.mem_or_eq_of_mem_set hx with hx | rfl
  · rw [List.mem_replicate] at hx; omega
  · exact h⟩
theorem jobberlaw20_SessionRuns.law : jobberlaw20_SessionRuns ((), ()) = some ((true, ()), ()) := by
  have h1 := b32_of (n := 1) (by omega)
  have h2 := b32_of (n := 2) (by omega)
  have o1 : (List.replicate 32 (0 : Int)).set 0 1 = ci ((List.replicate 32 0).set 0 1) := one_of 1
  have o2 : (List.replicate 32 (0 : Int)).set 0 2 = ci ((List.replicate 32 0).set 0 2) := one_of 2
  have t1 := fun (a b c : Int) (nc : List Int) => s_take nc (nx := 1) (by omega) (by omega) a b c
  have t2 := fun (a b c : Int) (nc : List Int) => s_take nc (nx := 2) (by omega) (by omega) a b c
  have t3 := fun (a b c : Int) (nc : List Int) => s_take_other nc (n := 1) (nx := 2) (by omega) a b c
  have e1 : (1 : Int) + 1 = 2 := rfl
  have e2 : (2 : Int) + 1 = 3 := rfl
  have l1 := fun (tr : Int) (nc : List Int) (nx : Int) => s_late (a := 3) (by omega) tr nc nx 5 14 10 (by omega) (by omega)
  have l2 := fun (tr : Int) (nc : List Int) (nx : Int) => s_late (a := 3) (by omega) tr nc nx 5 15 10 (by omega) (by omega)
  have d1 := of_ (show ¬ (14 : Int) - 5 ≥ 10 by omega)
  have d2 := ot (show (15 : Int) - 5 ≥ 10 by omega)
  simp only [e1, e2] at t1 t2
  simp only [d1] at l1
  simp only [d2] at l2
  simp only [jobberlaw20_SessionRuns, s_new, Option.bind_some, o1, o2, s_open, s_hello, tag_ok h1 h2, s_answer h1 h2, t1, t2, t3, cond_true, s_at, odT, s_trader (a := 3) (.inr rfl), Bool.not_false, l1, l2]
theorem beT : boolEq true true = true := rfl
theorem beF : boolEq false false = true := rfl
theorem rng_b32 {l : List Int} (h : Rng (.arr 32 (.int .u8)) l) : ∃ bs : List Nat, l = ci bs ∧ B32 bs := by
  obtain ⟨bs, h1, h2⟩ := bytes_of fun x hx => rng8 (h.2 x hx)
  have h3 : l.length = 32 := h.1
  exact ⟨bs, h1, by rw [h1, ci_len] at h3; exact h3, h2⟩
theorem mac_b32 (a b : List Nat) : B32 (macN a b) := ⟨macN_len _ _, macN_lt _ _⟩
theorem within20 {v lo hi : Int} (hv : Rng (.int .i64) v) (h0 : -1000000 ≤ lo) (h1 : lo ≤ hi) (h2 : hi ≤ 1000000) : ∃ r : Int, lo ≤ r ∧ r ≤ hi ∧ jobberbook_Within ((v, lo, hi, ()), ()) = some ((r, ()), ()) := within_ok hv (by omega) h1 (by omega) (by omega)
theorem only_loop (key nc right : List Nat) (hr : right = macN key nc) (hk : B32 key) (hn : B32 nc) (k : Int) (X : List (List Nat)) (hX : ∀ x ∈ X, B32 x) (hl : X.length ≤ 100) : loopFix jobberlaw20_SessionOnly_l4 (((), (), k, (), X.map ci, (X.length : Int), 0, ()), (ci key, ci nc, ci right, ())) = some (.inr ((), (ci key, ci nc, ci right, ()))) := by
  have key' := loop_ind (b := jobberlaw20_SessionOnly_l4) (fun d => ∃ i : Nat, d = (((), (), k, (), X.map ci, (X.length : Int), (i : Int), ()), (ci key, ci nc, ci right, ())) ∧ i ≤ X.length) (fun r => r = .inr ((), (ci key, ci nc, ci right, ()))) (fun d => X.length - d.1.2.2.2.2.2.2.1.toNat) (by
    rintro d ⟨i, rfl, hi⟩
    by_cases h : i < X.length
    · right
      have e1 : wr .i64 ((i : Int) + 1) = ((i + 1 : Nat) : Int) := by rw [wr64 (by omega) (by omega)]; omega
      have hx : (X.map ci)[i]? = some (ci X[i]) := by simp [List.getElem?_eq_getElem h]
      have bx := hX _ (List.getElem_mem h)
      generalize X[i] = x at hx bx
      have hz := zip_all (ci x) (ci right) (by rw [ci_len, ci_len, bx.1, hr]; rfl)
      refine ⟨(((), (), k, (), X.map ci, (X.length : Int), ((i + 1 : Nat) : Int), ()), (ci key, ci nc, ci right, ())), ?_, ⟨i + 1, rfl, h⟩, by simp only; omega⟩
      by_cases e : x = right
      · subst hr
        subst e
        rw [ot rfl] at hz
        simp only [jobberlaw20_SessionOnly_l4, ot (show (i : Int) < (X.length : Int) by omega), cond_true, ot (show (0 : Int) ≤ (i : Int) by omega), Int.toNat_natCast, hx, Option.bind_some, s_new, s_open, s_hello, Bool.not_true, cond_false, s_answer hk hn, hz, beT, s_at, odT, s_answer_no (show ¬ (3 : Int) = 2 by omega), e1]
      · rw [of_ (fun q => e (ci_inj q))] at hz
        have ha := fun t a b c => s_answer_ne hk hn bx (by rw [← hr]; exact e) t a b c
        simp only [jobberlaw20_SessionOnly_l4, ot (show (i : Int) < (X.length : Int) by omega), cond_true, ot (show (0 : Int) ≤ (i : Int) by omega), Int.toNat_natCast, hx, Option.bind_some, s_new, s_open, s_hello, Bool.not_true, Bool.not_false, cond_false, ha, hz, beF, s_at, odT, of_ (show ¬ (0 : Int) = 3 by omega), s_answer_no (show ¬ (0 : Int) = 2 by omega), e1]
    · left
      have : i = X.length := by omega
      subst this
      exact ⟨_, by simp only [jobberlaw20_SessionOnly_l4, of_ (show ¬ (X.length : Int) < (X.length : Int) by omega), cond_false], rfl⟩)
  obtain ⟨r, hr', rfl⟩ := key' (((), (), k, (), X.map ci, (X.length : Int), 0, ()), (ci key, ci nc, ci right, ())) ⟨0, rfl, by omega⟩
  exact hr'
theorem jobberlaw20_SessionOnly.law (key nonce other t : List Int) (n : Int) (h0 : Rng (.arr 32 (.int .u8)) key) (h1 : Rng (.arr 32 (.int .u8)) nonce) (h2 : Rng (.arr 32 (.int .u8)) other) (h3 : Rng (.arr 32 (.int .u8)) t) (h4 : Rng (.int .i64) n) : jobberlaw20_SessionOnly ((key, nonce, other, t, n, ()), ()) = some ((true, ()), ()) := by
  obtain ⟨key, rfl, hk⟩ := rng_b32 h0
  obtain ⟨nc, rfl, hn⟩ := rng_b32 h1
  obtain ⟨other, rfl, ho⟩ := rng_b32 h2
  obtain ⟨t, rfl, ht⟩ := rng_b32 h3
  obtain ⟨k, k0, k1, ek⟩ := within20 h4 (lo := 0) (hi := 31) (by omega) (by omega) (by omega)
  have hl := only_loop key nc (macN key nc) rfl hk hn k [t, macN key other, macN other nc, macN key nc] (fun x hx => by
    rcases List.mem_cons.1 hx with rfl | hx
    · exact ht
    · rcases List.mem_cons.1 hx with rfl | hx
      · exact mac_b32 _ _
      · rcases List.mem_cons.1 hx with rfl | hx
        · exact mac_b32 _ _
        · rw [List.mem_singleton.1 hx]; exact mac_b32 _ _) (by simp)
  simp only [List.map_cons, List.map_nil, List.length_cons, List.length_nil] at hl
  simp only [jobberlaw20_SessionOnly, ek, Option.bind_some, tag_ok hk hn, tag_ok hk ho, tag_ok ho hn, List.length_cons, List.length_nil, hl, jobberlaw20_SessionRuns.law]
theorem order_loop (l : List Int) (h : ∀ x ∈ l, Rng (.int .i64) x) (nc : List Int) (tr : Int) : ∃ nx sn : Int, loopFix jobberlaw20_SessionOrder_l6 ((l, (), (), 1, 0, ()), (nc, (3, tr, zz, 1, 0, ()), ())) = some (.inr (((), (), ()), (nc, (3, tr, zz, nx, sn, ()), ()))) := by
  have key' := loop_ind (b := jobberlaw20_SessionOrder_l6) (fun d => ∃ (i : Nat) (nx sn : Int), d = ((l, (), (), nx, (i : Int), ()), (nc, (3, tr, zz, nx, sn, ()), ())) ∧ i ≤ l.length ∧ i ≤ 40 ∧ 1 ≤ nx ∧ nx ≤ (i : Int) + 1) (fun r => ∃ nx sn : Int, r = .inr (((), (), ()), (nc, (3, tr, zz, nx, sn, ()), ()))) (fun d => l.length - d.1.2.2.2.2.1.toNat) (by
    rintro d ⟨i, nx, sn, rfl, hi, h40, n1, n2⟩
    by_cases h1 : i < l.length
    · by_cases h2 : i < 40
      · right
        have e1 : wr .i64 ((i : Int) + 1) = ((i + 1 : Nat) : Int) := by rw [wr64 (by omega) (by omega)]; omega
        have w1 : wr .i64 (nx - 1) = nx - 1 := wr64 (by omega) (by omega)
        have w2 : wr .i64 (nx + 1) = nx + 1 := wr64 (by omega) (by omega)
        have hx := List.getElem?_eq_getElem h1
        obtain ⟨r, r0, r1, er⟩ := within20 (h _ (List.getElem_mem h1)) (lo := nx - 1) (hi := nx + 1) (by omega) (by omega) (by omega)
        by_cases e : r = nx
        · subst e
          refine ⟨((l, (), (), r + 1, ((i + 1 : Nat) : Int), ()), (nc, (3, tr, zz, r + 1, (i : Int), ()), ())), ?_, ⟨i + 1, r + 1, (i : Int), rfl, by omega, by omega, by omega, by omega⟩, by simp only; omega⟩
          simp only [jobberlaw20_SessionOrder_l6, ot (show (i : Int) < (l.length : Int) by omega), ot (show (i : Int) < 40 by omega), cond_true, ot (show (0 : Int) ≤ (i : Int) by omega), Int.toNat_natCast, hx, Option.bind_some, w1, w2, er, s_take zz (show 0 ≤ r by omega) (show r < 1073741824 by omega), odT, beT, Bool.not_true, cond_false, e1]
        · refine ⟨((l, (), (), nx, ((i + 1 : Nat) : Int), ()), (nc, (3, tr, zz, nx, (i : Int), ()), ())), ?_, ⟨i + 1, nx, (i : Int), rfl, by omega, by omega, by omega, by omega⟩, by simp only; omega⟩
          simp only [jobberlaw20_SessionOrder_l6, ot (show (i : Int) < (l.length : Int) by omega), ot (show (i : Int) < 40 by omega), cond_true, ot (show (0 : Int) ≤ (i : Int) by omega), Int.toNat_natCast, hx, Option.bind_some, w1, w2, er, s_take_other zz e, of_ e, beF, Bool.not_true, cond_false, e1]
      · left
        exact ⟨_, by simp only [jobberlaw20_SessionOrder_l6, ot (show (i : Int) < (l.length : Int) by omega), of_ (show ¬ (i : Int) < 40 by omega), cond_true, cond_false], nx, sn, rfl⟩
    · left
      exact ⟨_, by simp only [jobberlaw20_SessionOrder_l6, of_ (show ¬ (i : Int) < (l.length : Int) by omega), cond_false], nx, sn, rfl⟩)
  obtain ⟨r, hr, nx, sn, rfl⟩ := key' ((l, (), (), 1, 0, ()), (nc, (3, tr, zz, 1, 0, ()), ())) ⟨0, 1, 0, rfl, by omega, by omega, by omega, by omega⟩
  exact ⟨nx, sn, hr⟩
theorem jobberlaw20_SessionOrder.law (key nonce l : List Int) (h0 : Rng (.arr 32 (.int .u8)) key) (h1 : Rng (.arr 32 (.int .u8)) nonce) (h2 : Rng (.deep (.int .i64)) l) : jobberlaw20_SessionOrder ((key, nonce, l, ()), ()) = some ((true, ()), ()) := by
  obtain ⟨key, rfl, hk⟩ := rng_b32 h0
  obtain ⟨nc, rfl, hn⟩ := rng_b32 h1
  obtain ⟨nx, sn, hl⟩ := order_loop l (fun x hx => h2.2 x hx) (ci nc) 1
  simp only [jobberlaw20_SessionOrder, s_new, Option.bind_some, s_take_no (show ¬ (0 : Int) = 3 by omega), cond_false, s_open, Bool.not_true, s_take_no (show ¬ (1 : Int) = 3 by omega), s_hello, tag_ok hk hn, s_answer hk hn, hl, s_at, odT, cond_true, s_open_no (show ¬ (3 : Int) = 0 by omega), Bool.not_false, s_hello_no (show ¬ (3 : Int) = 1 by omega), jobberlaw20_SessionRuns.law]
theorem idle_loop (l : List Int) (h : ∀ x ∈ l, Rng (.int .i64) x) (k tr : Int) (k0 : 1 ≤ k) (k1 : k ≤ 50) : ∃ now sn : Int, 0 ≤ now ∧ now ≤ 2000 ∧ loopFix jobberlaw20_SessionIdle_l7 ((l, (), k, 0, 0, ()), ((3, tr, zz, 1, 0, ()), ())) = some (.inr (((), now, ()), ((3, tr, zz, 1, sn, ()), ()))) := by
  have key' := loop_ind (b := jobberlaw20_SessionIdle_l7) (fun d => ∃ (i : Nat) (now sn : Int), d = ((l, (), k, now, (i : Int), ()), ((3, tr, zz, 1, sn, ()), ())) ∧ i ≤ l.length ∧ i ≤ 30 ∧ 0 ≤ now ∧ now ≤ 60 * (i : Int)) (fun r => ∃ now sn : Int, 0 ≤ now ∧ now ≤ 2000 ∧ r = .inr (((), now, ()), ((3, tr, zz, 1, sn, ()), ()))) (fun d => l.length - d.1.2.2.2.2.1.toNat) (by
    rintro d ⟨i, now, sn, rfl, hi, h30, n1, n2⟩
    by_cases h1 : i < l.length
    · by_cases h2 : i < 30
      · right
        have e1 : wr .i64 ((i : Int) + 1) = ((i + 1 : Nat) : Int) := by rw [wr64 (by omega) (by omega)]; omega
        have hx := List.getElem?_eq_getElem h1
        obtain ⟨r, r0, r1, er⟩ := within20 (h _ (List.getElem_mem h1)) (lo := 0) (hi := 60) (by omega) (by omega) (by omega)
        have w1 : wr .i64 (now + r) = now + r := wr64 (by omega) (by omega)
        have w2 : wr .i64 ((now + r) + k) = (now + r) + k := wr64 (by omega) (by omega)
        have w3 : wr .i64 (((now + r) + k) - 1) = ((now + r) + k) - 1 := wr64 (by omega) (by omega)
        have l1 := s_late (a := 3) (by omega) tr zz 1 (now + r) (((now + r) + k) - 1) k (by omega) (by omega)
        rw [of_ (show ¬ (((now + r) + k) - 1) - (now + r) ≥ k by omega)] at l1
        have l2 := s_late (a := 3) (by omega) tr zz 1 (now + r) ((now + r) + k) k (by omega) (by omega)
        rw [ot (show ((now + r) + k) - (now + r) ≥ k by omega)] at l2
        refine ⟨((l, (), k, now + r, ((i + 1 : Nat) : Int), ()), ((3, tr, zz, 1, now + r, ()), ())), ?_, ⟨i + 1, now + r, now + r, rfl, by omega, by omega, by omega, by omega⟩, by simp only; omega⟩
        by_cases e : Int.tmod l[i] 2 = 0
        · simp only [jobberlaw20_SessionIdle_l7, ot (show (i : Int) < (l.length : Int) by omega), ot (show (i : Int) < 30 by omega), cond_true, ot (show (0 : Int) ≤ (i : Int) by omega), Int.toNat_natCast, hx, Option.bind_some, er, of_ (show ¬ (2 : Int) = 0 by omega), cond_false, ot e, w1, w2, w3, s_beat, Bool.not_true, l1, l2, e1]
        · simp only [jobberlaw20_SessionIdle_l7, ot (show (i : Int) < (l.length : Int) by omega), ot (show (i : Int) < 30 by omega), cond_true, ot (show (0 : Int) ≤ (i : Int) by omega), Int.toNat_natCast, hx, Option.bind_some, er, of_ (show ¬ (2 : Int) = 0 by omega), cond_false, of_ e, w1, w2, w3, s_take_other zz (show (99999 : Int) ≠ 1 by omega), Bool.not_true, l1, l2, e1]
      · left
        exact ⟨_, by simp only [jobberlaw20_SessionIdle_l7, ot (show (i : Int) < (l.length : Int) by omega), of_ (show ¬ (i : Int) < 30 by omega), cond_true, cond_false], now, sn, n1, by omega, rfl⟩
    · left
      exact ⟨_, by simp only [jobberlaw20_SessionIdle_l7, of_ (show ¬ (i : Int) < (l.length : Int) by omega), cond_false], now, sn, n1, by omega, rfl⟩)
  obtain ⟨r, hr, now, sn, q1, q2, rfl⟩ := key' ((l, (), k, 0, 0, ()), ((3, tr, zz, 1, 0, ()), ())) ⟨0, 0, 0, rfl, by omega, by omega, by omega, by omega⟩
  exact ⟨now, sn, q1, q2, hr⟩
theorem jobberlaw20_SessionIdle.law (key nonce l : List Int) (idle : Int) (h0 : Rng (.arr 32 (.int .u8)) key) (h1 : Rng (.arr 32 (.int .u8)) nonce) (h2 : Rng (.deep (.int .i64)) l) (h3 : Rng (.int .i64) idle) : jobberlaw20_SessionIdle ((key, nonce, l, idle, ()), ()) = some ((true, ()), ()) := by
  obtain ⟨key, rfl, hk⟩ := rng_b32 h0
  obtain ⟨nc, rfl, hn⟩ := rng_b32 h1
  obtain ⟨k, k0, k1, ek⟩ := within20 h3 (lo := 1) (hi := 50) (by omega) (by omega) (by omega)
  obtain ⟨now, sn, n0, n1, hl⟩ := idle_loop l (fun x hx => h2.2 x hx) k 1 k0 k1
  simp only [jobberlaw20_SessionIdle, s_new, Option.bind_some, ek, s_late_no, cond_false, s_beat_no (show ¬ (0 : Int) = 3 by omega), s_open, Bool.not_true, s_hello, tag_ok hk hn, s_answer hk hn, hl, s_close, Bool.not_false, cond_true, s_at, odT, s_trader_no (show ¬ (0 : Int) = 2 by omega) (show ¬ (0 : Int) = 3 by omega), s_nonce_no (show ¬ (0 : Int) = 1 by omega) (show ¬ (0 : Int) = 2 by omega), zip_self, jobberlaw20_SessionRuns.law]
theorem ci_set (b : List Nat) (j n : Nat) : (ci b).set j (n : Int) = ci (b.set j n) := by simp [ci, List.map_set]
theorem flip_ne {x : List Nat} {k : Nat} (hk : k < x.length) : x.set k (x.getD k 0 ^^^ 1) ≠ x := by
  intro h
  have h2 : (x.set k (x.getD k 0 ^^^ 1)).getD k 0 = x.getD k 0 := by rw [h]
  rw [List.getD_eq_getElem?_getD, List.getElem?_set_self hk, Option.getD_some] at h2
  have h3 : x.getD k 0 ^^^ (x.getD k 0 ^^^ 1) = x.getD k 0 ^^^ x.getD k 0 := by rw [h2]
  rw [← Nat.xor_assoc, Nat.xor_self, Nat.zero_xor] at h3
  exact absurd h3 (by decide)
theorem jobberlaw20_SessionTwice.law (key a b : List Int) (n : Int) (h0 : Rng (.arr 32 (.int .u8)) key) (h1 : Rng (.arr 32 (.int .u8)) a) (h2 : Rng (.arr 32 (.int .u8)) b) (h3 : Rng (.int .i64) n) : jobberlaw20_SessionTwice ((key, a, b, n, ()), ()) = some ((true, ()), ()) := by
  obtain ⟨key, rfl, hk⟩ := rng_b32 h0
  obtain ⟨a, rfl, ha⟩ := rng_b32 h1
  obtain ⟨b, rfl, hb⟩ := rng_b32 h2
  obtain ⟨k, k0, k1, ek⟩ := within20 h3 (lo := 0) (hi := 31) (by omega) (by omega) (by omega)
  obtain ⟨j, rfl⟩ : ∃ j : Nat, k = (j : Int) := ⟨k.toNat, by omega⟩
  have bm := mac_b32 key a
  have hj : j < (macN key a).length := by have := bm.1; omega
  have gx := ci_get hj
  have hx : (macN key a).getD j 0 < 256 := getD_lt (by omega) bm.2 j
  have e1 : bxor .u8 ((((macN key a).getD j 0 : Nat)) : Int) 1 = (((macN key a).getD j 0 ^^^ 1 : Nat) : Int) := bxor8 hx (y := 1) (by omega)
  have bw : B32 ((macN key a).set j ((macN key a).getD j 0 ^^^ 1)) := ⟨by rw [List.length_set]; exact bm.1, fun x hx' => by
    rcases List.mem_or_eq_of_mem_set hx' with h | rfl
    · exact bm.2 x h
    · exact xor256 hx (by omega)⟩
  have aw := fun t p q r => s_answer_ne hk ha bw (flip_ne hj) t p q r
  have tk := fun (a b c : Int) (nc : List Int) => s_take nc (nx := 1) (by omega) (by omega) a b c
  simp only [jobberlaw20_SessionTwice, s_new, Option.bind_some, s_open, Bool.not_true, cond_false, s_open_no (show ¬ (1 : Int) = 0 by omega), s_nonce (show (1 : Int) = 1 ∨ (1 : Int) = 2 by omega), zip_self, s_hello, s_hello_no (show ¬ (2 : Int) = 1 by omega), s_trader (show (2 : Int) = 2 ∨ (2 : Int) = 3 by omega), odT, tag_ok hk ha, ek, ot (show (0 : Int) ≤ (j : Int) ∧ (j : Int) < ((32 : Nat) : Int) by omega), cond_true, Int.toNat_natCast, gx, e1, ci_set, aw, s_at, s_answer_no (show ¬ (0 : Int) = 2 by omega), s_nonce_no (show ¬ (0 : Int) = 1 by omega) (show ¬ (0 : Int) = 2 by omega), s_trader_no (show ¬ (0 : Int) = 2 by omega) (show ¬ (0 : Int) = 3 by omega), tag_ok hk hb, s_answer hk hb, tk, s_trader (show (3 : Int) = 2 ∨ (3 : Int) = 3 by omega), jobberlaw20_SessionRuns.law]
theorem made64 : odec (True ∧ 0 ≤ (64 : Int) ∧ (64 : Int) * ((1 : Nat) : Int) ≤ (room : Nat)) = true := ot ⟨trivial, by rw [roomI]; omega⟩
theorem t64' : (64 : Int).toNat = 64 := rfl
theorem laid2 (k : List Nat) (h : k.length ≤ 64) : (ci k).take (List.replicate 64 (0 : Int)).length ++ (List.replicate 64 (0 : Int)).drop (ci k).length = ci (k ++ List.replicate (64 - k.length) 0) := by
  rw [List.length_replicate, ci_len, ci_take, List.take_of_length_le (l := k) h, List.drop_replicate, ci_app, rep_ci]
theorem refMac_loop (P : List Nat) (hP : P.length = 64) (hb : ∀ x ∈ P, x < 256) (b X : List Int) : loopFix jobberref1_Mac_l8 ((b, (), ci P, (), (), ((ci P).length : Int), 0, ()), (X, List.replicate 64 (0 : Int), List.replicate 64 (0 : Int), ())) = some ((b, (), (), (), ()), (X, ci (xo 54 P), ci (xo 92 P), ())) := by
  have key := loop_ind (b := jobberref1_Mac_l8) (fun x => ∃ i : Nat, x = ((b, (), ci P, (), (), ((ci P).length : Int), (i : Int), ()), (X, ci (xo 54 (P.take i)) ++ List.replicate (64 - i) (0 : Int), ci (xo 92 (P.take i)) ++ List.replicate (64 - i) (0 : Int), ())) ∧ i ≤ 64) (fun r => r = ((b, (), (), (), ()), (X, ci (xo 54 P), ci (xo 92 P), ()))) (fun x => 64 - x.1.2.2.2.2.2.2.1.toNat) (by
    rintro x ⟨i, rfl, hi⟩
    have hl : (ci P).length = 64 := by rw [ci_len, hP]
    by_cases h : i < 64
    · right
      have e1 : wr .i64 ((i : Int) + 1) = ((i + 1 : Nat) : Int) := by rw [wr64 (by omega) (by omega)]; omega
      have g : P.getD i 0 < 256 := getD_lt (by omega) hb i
      have hr : 64 - i = (64 - (i + 1)) + 1 := by omega
      have l1 : ∀ n, (xo n (P.take i)).length = i := fun n => by rw [xo_len, List.length_take]; omega
      have s1 := fill_at (xo 92 (P.take i)) (64 - (i + 1))
      have s2 := fill_set (xo 92 (P.take i)) (64 - (i + 1)) (P.getD i 0 ^^^ 92)
      have s3 := fill_at (xo 54 (P.take i)) (64 - (i + 1))
      have s4 := fill_set (xo 54 (P.take i)) (64 - (i + 1)) (P.getD i 0 ^^^ 54)
      rw [l1] at s1 s2 s3 s4
      have o1 : ∀ n, odec (0 ≤ (i : Int) ∧ (i : Int) < ((ci (xo n (P.take i)) ++ List.replicate (64 - (i + 1) + 1) (0 : Int)).length : Int)) = true := fun n => ot (by rw [List.length_append, ci_len, l1, List.length_replicate]; omega)
      refine ⟨((b, (), ci P, (), (), ((ci P).length : Int), ((i + 1 : Nat) : Int), ()), (X, ci (xo 54 (P.take (i + 1))) ++ List.replicate (64 - (i + 1)) (0 : Int), ci (xo 92 (P.take (i + 1))) ++ List.replicate (64 - (i + 1)) (0 : Int), ())), ?_, ⟨i + 1, rfl, by omega⟩, by simp only; omega⟩
      rw [xo_take 92 P i (by omega), xo_take 54 P i (by omega), hr]
      simp only [jobberref1_Mac_l8, ot (show (i : Int) < ((ci P).length : Int) by omega), cond_true, ot (show (0 : Int) ≤ (i : Int) by omega), Int.toNat_natCast, ci_get (show i < P.length by omega), Option.bind_some, o1, s1, s3, x92 g, x54 g, s2, s4, e1]
    · left
      have : i = 64 := by omega
      subst this
      refine ⟨_, by simp only [jobberref1_Mac_l8, of_ (show ¬ ((64 : Nat) : Int) < ((ci P).length : Int) by omega), cond_false]; rfl, ?_⟩
      rw [List.take_of_length_le (by omega)]; simp)
  obtain ⟨r, hr, rfl⟩ := key ((b, (), ci P, (), (), ((ci P).length : Int), 0, ()), (X, List.replicate 64 (0 : Int), List.replicate 64 (0 : Int), ())) ⟨0, rfl, by omega⟩
  exact hr
theorem refMac_ok (key b : List Nat) (hk : ∀ x ∈ key, x < 256) (hb : ∀ x ∈ b, x < 256) (lk : key.length ≤ 1000000) (lb : b.length ≤ 100000) : jobberref1_Mac ((ci key, ci b, ()), ()) = some ((ci (macN key b), ()), ()) := by
  have lp : ∀ n, (xo n (padN key)).length = 64 := fun n => by rw [xo_len, padN_len]
  have hp : ∀ n, n < 256 → ∀ x ∈ xo n (padN key), x < 256 := fun n hn => xo_lt hn (padN_lt hk)
  have g2 := refMac_loop (padN key) (padN_len key) (padN_lt hk) (ci b) (List.replicate 32 (0 : Int))
  have s1 := refSha_ok (xo 54 (padN key) ++ b) (fun x hx => (List.mem_append.1 hx).elim (hp 54 (by omega) x) (hb x)) (by rw [List.length_append, lp]; omega)
  have s2 := refSha_ok (xo 92 (padN key) ++ shaN (xo 54 (padN key) ++ b)) (fun x hx => (List.mem_append.1 hx).elim (hp 92 (by omega) x) (sha_lt _ x)) (by rw [List.length_append, lp, sha_len]; omega)
  rw [ci_app] at s1 s2
  have k3 := cut32 (sha_len (xo 54 (padN key) ++ b))
  have e1 : odec ((((ci (xo 54 (padN key))).length + (ci b).length : Nat) : Int) * ((1 : Nat) : Int) ≤ (room : Nat)) = true := inRoom (by rw [ci_len, ci_len, lp]; omega)
  have e2 : odec ((((ci (xo 92 (padN key))).length + (ci (shaN (xo 54 (padN key) ++ b))).length : Nat) : Int) * ((1 : Nat) : Int) ≤ (room : Nat)) = true := inRoom (by rw [ci_len, ci_len, lp, sha_len]; omega)
  by_cases h : 64 < key.length
  · have e : keyN key = shaN key := by rw [keyN, if_pos h]
    have hpd : padN key = shaN key ++ List.replicate (64 - (shaN key).length) 0 := by rw [padN, e]
    have g1 := refSha_ok key hk lk
    have hlaid := laid2 (shaN key) (by rw [sha_len]; omega)
    rw [← hpd] at hlaid
    simp only [jobberref1_Mac, made64, cond_true, ot (show ((ci key).length : Int) > 64 by rw [ci_len]; omega), g1, Option.bind_some, b032, t320, t64', cut32 (sha_len key), hlaid, g2, e1, s1, k3, e2, s2]
    rfl
  · have e : keyN key = key := by rw [keyN, if_neg h]
    have hpd : padN key = key ++ List.replicate (64 - key.length) 0 := by rw [padN, e]
    have hlaid := laid2 key (by omega)
    rw [← hpd] at hlaid
    simp only [jobberref1_Mac, made64, cond_true, of_ (show ¬ ((ci key).length : Int) > 64 by rw [ci_len]; omega), cond_false, Option.bind_some, b032, t320, t64', hlaid, g2, e1, s1, k3, e2, s2]
    rfl
/-! ### the document's session -/
abbrev RV := Int × List Int × Int × Int × Int × Unit
theorem r_open (n nc : List Int) (t tr nx sn : Int) : jobberref19_Session_Open (((), n, t, ()), ((0, nc, tr, nx, sn, ()), ())) = some ((true, ()), ((1, n, 0, 0, t, ()), ())) := by
  simp only [jobberref19_Session_Open, odT, Bool.not_true, cond_false]
theorem r_open_no {a : Int} (h : ¬ a = 0) (n nc : List Int) (t tr nx sn : Int) : jobberref19_Session_Open (((), n, t, ()), ((a, nc, tr, nx, sn, ()), ())) = some ((false, ()), ((a, nc, tr, nx, sn, ()), ())) := by
  simp only [jobberref19_Session_Open, of_ h, Bool.not_false, cond_true]
theorem r_hello (nc : List Int) (k t tr nx sn : Int) : jobberref19_Session_Hello (((), k, t, ()), ((1, nc, tr, nx, sn, ()), ())) = some ((true, ()), ((2, nc, k, nx, t, ()), ())) := by
  simp only [jobberref19_Session_Hello, odT, Bool.not_true, cond_false]
theorem r_hello_no {a : Int} (h : ¬ a = 1) (nc : List Int) (k t tr nx sn : Int) : jobberref19_Session_Hello (((), k, t, ()), ((a, nc, tr, nx, sn, ()), ())) = some ((false, ()), ((a, nc, tr, nx, sn, ()), ())) := by
  simp only [jobberref19_Session_Hello, of_ h, Bool.not_false, cond_true]
theorem r_take_no {a : Int} (h : ¬ a = 3) (nc : List Int) (n t tr nx sn : Int) : jobberref19_Session_Takes (((), n, t, ()), ((a, nc, tr, nx, sn, ()), ())) = some ((false, ()), ((a, nc, tr, nx, sn, ()), ())) := by
  simp only [jobberref19_Session_Takes, of_ h, Bool.not_false, cond_true]
theorem r_take_other (nc : List Int) {n nx : Int} (h : ¬ n = nx) (t tr sn : Int) : jobberref19_Session_Takes (((), n, t, ()), ((3, nc, tr, nx, sn, ()), ())) = some ((false, ()), ((3, nc, tr, nx, t, ()), ())) := by
  simp only [jobberref19_Session_Takes, odT, Bool.not_true, cond_false, of_ h, Bool.not_false, cond_true]
theorem r_take (nc : List Int) {nx : Int} (h0 : 0 ≤ nx) (h1 : nx < 1073741824) (t tr sn : Int) : jobberref19_Session_Takes (((), nx, t, ()), ((3, nc, tr, nx, sn, ()), ())) = some ((true, ()), ((3, nc, tr, nx + 1, t, ()), ())) := by
  have w : wr .i64 (nx + 1) = nx + 1 := wr64 (by omega) (by omega)
  simp only [jobberref19_Session_Takes, odT, Bool.not_true, cond_false, of_ (show ¬ nx ≥ 1073741824 by omega), w]
theorem r_late_no (tr : Int) (nc : List Int) (nx sn now k : Int) : jobberref19_Session_Late (((), now, k, ()), ((0, nc, tr, nx, sn, ()), ())) = some ((false, ()), ((0, nc, tr, nx, sn, ()), ())) := by
  simp only [jobberref19_Session_Late, odT, Bool.not_true, cond_false]
theorem r_late {a : Int} (h : ¬ a = 0) (tr : Int) (nc : List Int) (nx sn now k : Int) : jobberref19_Session_Late (((), now, k, ()), ((a, nc, tr, nx, sn, ()), ())) = some ((odec (wr .i64 (now - sn) ≥ k), ()), ((a, nc, tr, nx, sn, ()), ())) := by
  simp only [jobberref19_Session_Late, of_ h, Bool.not_false, cond_true]
theorem s_late' {a : Int} (h : ¬ a = 0) (tr : Int) (nc : List Int) (nx sn now k : Int) : session_Session_Late (((), now, k, ()), ((a, tr, nc, nx, sn, ()), ())) = some ((odec (wr .i64 (now - sn) ≥ k), ()), ((a, tr, nc, nx, sn, ()), ())) := by
  simp only [session_Session_Late, of_ h, Bool.not_false, cond_true]
theorem r_answer_no {a : Int} (h : ¬ a = 2) (k t nc : List Int) (now tr nx sn : Int) : jobberref19_Session_Answer (((), k, t, now, ()), ((a, nc, tr, nx, sn, ()), ())) = some ((false, ()), ((a, nc, tr, nx, sn, ()), ())) := by
  simp only [jobberref19_Session_Answer, of_ h, Bool.not_false, cond_true]
theorem r_answer_ne {key nc t : List Nat} (hk : B32 key) (hn : B32 nc) (ht : B32 t) (h : t ≠ macN key nc) (now tr nx sn : Int) : jobberref19_Session_Answer (((), ci key, ci t, now, ()), ((2, ci nc, tr, nx, sn, ()), ())) = some ((false, ()), ((0, zz, 0, 0, 0, ()), ())) := by
  have g1 := refMac_ok key nc hk.2 hn.2 (by have := hk.1; omega) (by have := hn.1; omega)
  have g3 := zip_all (ci (macN key nc)) (ci t) (by rw [ci_len, ci_len, macN_len, ht.1])
  rw [of_ (fun e => h (ci_inj e).symm)] at g3
  simp only [jobberref19_Session_Answer, odT, Bool.not_true, cond_false, b032, cond_true, t320, cut32 hk.1, cut32 hn.1, g1, Option.bind_some, g3, Bool.not_false]
theorem r_answer {key nc : List Nat} (hk : B32 key) (hn : B32 nc) (now tr nx sn : Int) : jobberref19_Session_Answer (((), ci key, ci (macN key nc), now, ()), ((2, ci nc, tr, nx, sn, ()), ())) = some ((true, ()), ((3, zz, tr, 1, now, ()), ())) := by
  have g1 := refMac_ok key nc hk.2 hn.2 (by have := hk.1; omega) (by have := hn.1; omega)
  simp only [jobberref19_Session_Answer, odT, Bool.not_true, cond_false, b032, cond_true, t320, cut32 hk.1, cut32 hn.1, g1, Option.bind_some, zip_self]
theorem beS (b : Bool) : boolEq b b = true := by cases b <;> rfl
theorem cond_lazy {α : Type} {c c' : Bool} (a b : α) (h : c = c') : cond c a b = cond c' a b := by rw [h]
theorem bind_lazy {α β : Type} {x x' : Option α} (f : α → Option β) (h : x = x') : x.bind f = x'.bind f := by rw [h]
attribute [local congr] cond_lazy bind_lazy
/-- where both sessions may be -/
def Jo (a tr : Int) (nc : List Int) : Prop := (a = 0 ∧ tr = 0 ∧ nc = zz) ∨ (∃ n, B32 n ∧ a = 1 ∧ tr = 0 ∧ nc = ci n) ∨ (∃ n, B32 n ∧ a = 2 ∧ nc = ci n) ∨ (a = 3 ∧ nc = zz)
theorem tag_zz {key : List Nat} (hk : B32 key) : jobberlaw20_tag ((ci key, zz, ()), ()) = some ((ci (macN key (List.replicate 32 0)), ()), ()) := by
  have := tag_ok hk (nc := List.replicate 32 0) ⟨by simp, fun x hx => by rw [List.mem_replicate] at hx; omega⟩
  rw [← rep_ci] at this
  exact this
abbrev PD (l : List (Int × Int × Int × (List Int) × Bool × Unit)) (idle : Int) (key : List Int) (i a tr : Int) (nc : List Int) (nx sn : Int) : (((List (Int × Int × Int × (List Int) × Bool × Unit)) × Int × Unit × Unit × Unit × Int × Unit) × ((List Int) × (Int × Int × (List Int) × Int × Int × Unit) × (Int × (List Int) × Int × Int × Int × Unit) × Unit)) := ((l, idle, (), (), (), i, ()), (key, (a, tr, nc, nx, sn, ()), (a, nc, tr, nx, sn, ()), ()))

theorem d01 : odec ((0 : Int) = 1) = false := of_ (by omega)
theorem d02 : odec ((0 : Int) = 2) = false := of_ (by omega)
theorem d03 : odec ((0 : Int) = 3) = false := of_ (by omega)
theorem d04 : odec ((0 : Int) = 4) = false := of_ (by omega)
theorem d05 : odec ((0 : Int) = 5) = false := of_ (by omega)
theorem d06 : odec ((0 : Int) = 6) = false := of_ (by omega)
theorem d10 : odec ((1 : Int) = 0) = false := of_ (by omega)
theorem d12 : odec ((1 : Int) = 2) = false := of_ (by omega)
theorem d13 : odec ((1 : Int) = 3) = false := of_ (by omega)
theorem d14 : odec ((1 : Int) = 4) = false := of_ (by omega)
theorem d15 : odec ((1 : Int) = 5) = false := of_ (by omega)
theorem d16 : odec ((1 : Int) = 6) = false := of_ (by omega)
theorem d20 : odec ((2 : Int) = 0) = false := of_ (by omega)
theorem d21 : odec ((2 : Int) = 1) = false := of_ (by omega)
theorem d23 : odec ((2 : Int) = 3) = false := of_ (by omega)
theorem d24 : odec ((2 : Int) = 4) = false := of_ (by omega)
theorem d25 : odec ((2 : Int) = 5) = false := of_ (by omega)
theorem d26 : odec ((2 : Int) = 6) = false := of_ (by omega)
theorem d30 : odec ((3 : Int) = 0) = false := of_ (by omega)
theorem d31 : odec ((3 : Int) = 1) = false := of_ (by omega)
theorem d32 : odec ((3 : Int) = 2) = false := of_ (by omega)
theorem d34 : odec ((3 : Int) = 4) = false := of_ (by omega)
theorem d35 : odec ((3 : Int) = 5) = false := of_ (by omega)
theorem d36 : odec ((3 : Int) = 6) = false := of_ (by omega)
theorem d40 : odec ((4 : Int) = 0) = false := of_ (by omega)
theorem d41 : odec ((4 : Int) = 1) = false := of_ (by omega)
theorem d42 : odec ((4 : Int) = 2) = false := of_ (by omega)
theorem d43 : odec ((4 : Int) = 3) = false := of_ (by omega)
theorem d45 : odec ((4 : Int) = 5) = false := of_ (by omega)
theorem d46 : odec ((4 : Int) = 6) = false := of_ (by omega)
theorem d50 : odec ((5 : Int) = 0) = false := of_ (by omega)
theorem d51 : odec ((5 : Int) = 1) = false := of_ (by omega)
theorem d52 : odec ((5 : Int) = 2) = false := of_ (by omega)
theorem d53 : odec ((5 : Int) = 3) = false := of_ (by omega)
theorem d54 : odec ((5 : Int) = 4) = false := of_ (by omega)
theorem d56 : odec ((5 : Int) = 6) = false := of_ (by omega)
theorem d60 : odec ((6 : Int) = 0) = false := of_ (by omega)
theorem d61 : odec ((6 : Int) = 1) = false := of_ (by omega)
theorem d62 : odec ((6 : Int) = 2) = false := of_ (by omega)
theorem d63 : odec ((6 : Int) = 3) = false := of_ (by omega)
theorem d64 : odec ((6 : Int) = 4) = false := of_ (by omega)
theorem d65 : odec ((6 : Int) = 5) = false := of_ (by omega)
theorem pl0_1 (l : List (Int × Int × Int × (List Int) × Bool × Unit)) (idle k now nx sn : Int) (key : List Nat) (i : Nat) (hk : B32 key) (h1 : (i : Int) < (l.length : Int)) (h2 : (i : Int) < 30) (kind N Now : Int) (Sum : List Nat) (hs : B32 Sum) (right : Bool) (hx : l[i]? = some (kind, N, Now, ci Sum, right, ())) (er : jobberbook_Within ((Now, 0, 999, ()), ()) = some ((now, ()), ())) (ek : jobberbook_Within ((idle, 1, 500, ()), ()) = some ((k, ()), ())) (e1 : wr .i64 ((i : Int) + 1) = ((i + 1 : Nat) : Int)) (x0 : 0 ≤ nx) (x1 : nx ≤ (i : Int) + 1) (hkind : kind = 1) : ∃ a' tr' nc' nx' sn', jobberlaw20_SessionPlays_l5 (PD l idle (ci key) (i : Int) 0 0 zz nx sn) = some (.inl (PD l idle (ci key) ((i + 1 : Nat) : Int) a' tr' nc' nx' sn')) ∧ Jo a' tr' nc' ∧ 0 ≤ nx' ∧ nx' ≤ ((i + 1 : Nat) : Int) + 1 := by
  subst hkind
  refine ⟨1, 0, ci Sum, 0, now, ?_, .inr (.inl ⟨_, hs, rfl, rfl, rfl⟩), ⟨by omega, by omega⟩⟩
  simp only [jobberlaw20_SessionPlays_l5, PD, cond_true, cond_false, ot h1, ot h2, ot (show (0 : Int) ≤ (i : Int) by omega), Int.toNat_natCast, hx, Option.bind_some, er, ek, e1, d01, d02, d03, d04, d05, d06, d10, d12, d13, d14, d15, d16, d20, d21, d23, d24, d25, d26, d30, d31, d32, d34, d35, d36, d40, d41, d42, d43, d45, d46, d50, d51, d52, d53, d54, d56, d60, d61, d62, d63, d64, d65, s_open, r_open, beS, s_at, odT, Bool.not_true, cond_false, s_trader_no (show ¬ (1 : Int) = 2 by omega) (show ¬ (1 : Int) = 3 by omega), s_nonce (show (1 : Int) = 1 ∨ (1 : Int) = 2 by omega), zip_self, s_late' (show ¬ (1 : Int) = 0 by omega), r_late (show ¬ (1 : Int) = 0 by omega)]
theorem pl0_2 (l : List (Int × Int × Int × (List Int) × Bool × Unit)) (idle k now nx sn : Int) (key : List Nat) (i : Nat) (hk : B32 key) (h1 : (i : Int) < (l.length : Int)) (h2 : (i : Int) < 30) (kind N Now : Int) (Sum : List Nat) (hs : B32 Sum) (right : Bool) (hx : l[i]? = some (kind, N, Now, ci Sum, right, ())) (er : jobberbook_Within ((Now, 0, 999, ()), ()) = some ((now, ()), ())) (ek : jobberbook_Within ((idle, 1, 500, ()), ()) = some ((k, ()), ())) (e1 : wr .i64 ((i : Int) + 1) = ((i + 1 : Nat) : Int)) (x0 : 0 ≤ nx) (x1 : nx ≤ (i : Int) + 1) (hkind : kind = 2) (q : Int) (en : jobberbook_Within ((N, 0, 31, ()), ()) = some ((q, ()), ())) : ∃ a' tr' nc' nx' sn', jobberlaw20_SessionPlays_l5 (PD l idle (ci key) (i : Int) 0 0 zz nx sn) = some (.inl (PD l idle (ci key) ((i + 1 : Nat) : Int) a' tr' nc' nx' sn')) ∧ Jo a' tr' nc' ∧ 0 ≤ nx' ∧ nx' ≤ ((i + 1 : Nat) : Int) + 1 := by
  subst hkind
  refine ⟨0, 0, zz, nx, sn, ?_, .inl ⟨rfl, rfl, rfl⟩, ⟨x0, by omega⟩⟩
  simp only [jobberlaw20_SessionPlays_l5, PD, cond_true, cond_false, ot h1, ot h2, ot (show (0 : Int) ≤ (i : Int) by omega), Int.toNat_natCast, hx, Option.bind_some, er, ek, e1, d01, d02, d03, d04, d05, d06, d10, d12, d13, d14, d15, d16, d20, d21, d23, d24, d25, d26, d30, d31, d32, d34, d35, d36, d40, d41, d42, d43, d45, d46, d50, d51, d52, d53, d54, d56, d60, d61, d62, d63, d64, d65, en, s_hello_no (show (0 : Int) ≠ 1 by omega), r_hello_no (show ¬ (0 : Int) = 1 by omega), beS, s_at, odT, Bool.not_true, cond_false, s_trader_no (show ¬ (0 : Int) = 2 by omega) (show ¬ (0 : Int) = 3 by omega), s_nonce_no (show ¬ (0 : Int) = 1 by omega) (show ¬ (0 : Int) = 2 by omega), zip_self, s_late_no, r_late_no]
theorem pl0_3t (l : List (Int × Int × Int × (List Int) × Bool × Unit)) (idle k now nx sn : Int) (key : List Nat) (i : Nat) (hk : B32 key) (h1 : (i : Int) < (l.length : Int)) (h2 : (i : Int) < 30) (kind N Now : Int) (Sum : List Nat) (hs : B32 Sum) (right : Bool) (hx : l[i]? = some (kind, N, Now, ci Sum, right, ())) (er : jobberbook_Within ((Now, 0, 999, ()), ()) = some ((now, ()), ())) (ek : jobberbook_Within ((idle, 1, 500, ()), ()) = some ((k, ()), ())) (e1 : wr .i64 ((i : Int) + 1) = ((i + 1 : Nat) : Int)) (x0 : 0 ≤ nx) (x1 : nx ≤ (i : Int) + 1) (hkind : kind = 3) (hr : right = true) : ∃ a' tr' nc' nx' sn', jobberlaw20_SessionPlays_l5 (PD l idle (ci key) (i : Int) 0 0 zz nx sn) = some (.inl (PD l idle (ci key) ((i + 1 : Nat) : Int) a' tr' nc' nx' sn')) ∧ Jo a' tr' nc' ∧ 0 ≤ nx' ∧ nx' ≤ ((i + 1 : Nat) : Int) + 1 := by
  subst hkind
  subst hr
  refine ⟨0, 0, zz, nx, sn, ?_, .inl ⟨rfl, rfl, rfl⟩, ⟨x0, by omega⟩⟩
  simp only [jobberlaw20_SessionPlays_l5, PD, cond_true, cond_false, ot h1, ot h2, ot (show (0 : Int) ≤ (i : Int) by omega), Int.toNat_natCast, hx, Option.bind_some, er, ek, e1, d01, d02, d03, d04, d05, d06, d10, d12, d13, d14, d15, d16, d20, d21, d23, d24, d25, d26, d30, d31, d32, d34, d35, d36, d40, d41, d42, d43, d45, d46, d50, d51, d52, d53, d54, d56, d60, d61, d62, d63, d64, d65, s_nonce_no (show ¬ (0 : Int) = 1 by omega) (show ¬ (0 : Int) = 2 by omega), tag_zz hk, s_answer_no (show ¬ (0 : Int) = 2 by omega), r_answer_no (show ¬ (0 : Int) = 2 by omega), beS, s_at, odT, Bool.not_true, cond_false, s_trader_no (show ¬ (0 : Int) = 2 by omega) (show ¬ (0 : Int) = 3 by omega), s_nonce_no (show ¬ (0 : Int) = 1 by omega) (show ¬ (0 : Int) = 2 by omega), zip_self, s_late_no, r_late_no]
theorem pl0_3f (l : List (Int × Int × Int × (List Int) × Bool × Unit)) (idle k now nx sn : Int) (key : List Nat) (i : Nat) (hk : B32 key) (h1 : (i : Int) < (l.length : Int)) (h2 : (i : Int) < 30) (kind N Now : Int) (Sum : List Nat) (hs : B32 Sum) (right : Bool) (hx : l[i]? = some (kind, N, Now, ci Sum, right, ())) (er : jobberbook_Within ((Now, 0, 999, ()), ()) = some ((now, ()), ())) (ek : jobberbook_Within ((idle, 1, 500, ()), ()) = some ((k, ()), ())) (e1 : wr .i64 ((i : Int) + 1) = ((i + 1 : Nat) : Int)) (x0 : 0 ≤ nx) (x1 : nx ≤ (i : Int) + 1) (hkind : kind = 3) (hr : right = false) : ∃ a' tr' nc' nx' sn', jobberlaw20_SessionPlays_l5 (PD l idle (ci key) (i : Int) 0 0 zz nx sn) = some (.inl (PD l idle (ci key) ((i + 1 : Nat) : Int) a' tr' nc' nx' sn')) ∧ Jo a' tr' nc' ∧ 0 ≤ nx' ∧ nx' ≤ ((i + 1 : Nat) : Int) + 1 := by
  subst hkind
  subst hr
  refine ⟨0, 0, zz, nx, sn, ?_, .inl ⟨rfl, rfl, rfl⟩, ⟨x0, by omega⟩⟩
  simp only [jobberlaw20_SessionPlays_l5, PD, cond_true, cond_false, ot h1, ot h2, ot (show (0 : Int) ≤ (i : Int) by omega), Int.toNat_natCast, hx, Option.bind_some, er, ek, e1, d01, d02, d03, d04, d05, d06, d10, d12, d13, d14, d15, d16, d20, d21, d23, d24, d25, d26, d30, d31, d32, d34, d35, d36, d40, d41, d42, d43, d45, d46, d50, d51, d52, d53, d54, d56, d60, d61, d62, d63, d64, d65, s_answer_no (show ¬ (0 : Int) = 2 by omega), r_answer_no (show ¬ (0 : Int) = 2 by omega), beS, s_at, odT, Bool.not_true, cond_false, s_trader_no (show ¬ (0 : Int) = 2 by omega) (show ¬ (0 : Int) = 3 by omega), s_nonce_no (show ¬ (0 : Int) = 1 by omega) (show ¬ (0 : Int) = 2 by omega), zip_self, s_late_no, r_late_no]
theorem pl0_4 (l : List (Int × Int × Int × (List Int) × Bool × Unit)) (idle k now nx sn : Int) (key : List Nat) (i : Nat) (hk : B32 key) (h1 : (i : Int) < (l.length : Int)) (h2 : (i : Int) < 30) (kind N Now : Int) (Sum : List Nat) (hs : B32 Sum) (right : Bool) (hx : l[i]? = some (kind, N, Now, ci Sum, right, ())) (er : jobberbook_Within ((Now, 0, 999, ()), ()) = some ((now, ()), ())) (ek : jobberbook_Within ((idle, 1, 500, ()), ()) = some ((k, ()), ())) (e1 : wr .i64 ((i : Int) + 1) = ((i + 1 : Nat) : Int)) (x0 : 0 ≤ nx) (x1 : nx ≤ (i : Int) + 1) (hkind : kind = 4) : ∃ a' tr' nc' nx' sn', jobberlaw20_SessionPlays_l5 (PD l idle (ci key) (i : Int) 0 0 zz nx sn) = some (.inl (PD l idle (ci key) ((i + 1 : Nat) : Int) a' tr' nc' nx' sn')) ∧ Jo a' tr' nc' ∧ 0 ≤ nx' ∧ nx' ≤ ((i + 1 : Nat) : Int) + 1 := by
  subst hkind
  refine ⟨0, 0, zz, nx, sn, ?_, .inl ⟨rfl, rfl, rfl⟩, ⟨x0, by omega⟩⟩
  simp only [jobberlaw20_SessionPlays_l5, PD, cond_true, cond_false, ot h1, ot h2, ot (show (0 : Int) ≤ (i : Int) by omega), Int.toNat_natCast, hx, Option.bind_some, er, ek, e1, d01, d02, d03, d04, d05, d06, d10, d12, d13, d14, d15, d16, d20, d21, d23, d24, d25, d26, d30, d31, d32, d34, d35, d36, d40, d41, d42, d43, d45, d46, d50, d51, d52, d53, d54, d56, d60, d61, d62, d63, d64, d65, s_take_no (show (0 : Int) ≠ 3 by omega), r_take_no (show ¬ (0 : Int) = 3 by omega), beS, s_at, odT, Bool.not_true, cond_false, s_trader_no (show ¬ (0 : Int) = 2 by omega) (show ¬ (0 : Int) = 3 by omega), s_nonce_no (show ¬ (0 : Int) = 1 by omega) (show ¬ (0 : Int) = 2 by omega), zip_self, s_late_no, r_late_no]
theorem pl0_5 (l : List (Int × Int × Int × (List Int) × Bool × Unit)) (idle k now nx sn : Int) (key : List Nat) (i : Nat) (hk : B32 key) (h1 : (i : Int) < (l.length : Int)) (h2 : (i : Int) < 30) (kind N Now : Int) (Sum : List Nat) (hs : B32 Sum) (right : Bool) (hx : l[i]? = some (kind, N, Now, ci Sum, right, ())) (er : jobberbook_Within ((Now, 0, 999, ()), ()) = some ((now, ()), ())) (ek : jobberbook_Within ((idle, 1, 500, ()), ()) = some ((k, ()), ())) (e1 : wr .i64 ((i : Int) + 1) = ((i + 1 : Nat) : Int)) (x0 : 0 ≤ nx) (x1 : nx ≤ (i : Int) + 1) (hkind : kind = 5) : ∃ a' tr' nc' nx' sn', jobberlaw20_SessionPlays_l5 (PD l idle (ci key) (i : Int) 0 0 zz nx sn) = some (.inl (PD l idle (ci key) ((i + 1 : Nat) : Int) a' tr' nc' nx' sn')) ∧ Jo a' tr' nc' ∧ 0 ≤ nx' ∧ nx' ≤ ((i + 1 : Nat) : Int) + 1 := by
  subst hkind
  refine ⟨0, 0, zz, nx, sn, ?_, .inl ⟨rfl, rfl, rfl⟩, ⟨x0, by omega⟩⟩
  simp only [jobberlaw20_SessionPlays_l5, PD, cond_true, cond_false, ot h1, ot h2, ot (show (0 : Int) ≤ (i : Int) by omega), Int.toNat_natCast, hx, Option.bind_some, er, ek, e1, d01, d02, d03, d04, d05, d06, d10, d12, d13, d14, d15, d16, d20, d21, d23, d24, d25, d26, d30, d31, d32, d34, d35, d36, d40, d41, d42, d43, d45, d46, d50, d51, d52, d53, d54, d56, d60, d61, d62, d63, d64, d65, s_beat_no (show (0 : Int) ≠ 3 by omega), beS, s_at, odT, Bool.not_true, cond_false, s_trader_no (show ¬ (0 : Int) = 2 by omega) (show ¬ (0 : Int) = 3 by omega), s_nonce_no (show ¬ (0 : Int) = 1 by omega) (show ¬ (0 : Int) = 2 by omega), zip_self, s_late_no, r_late_no]
theorem pl0_6 (l : List (Int × Int × Int × (List Int) × Bool × Unit)) (idle k now nx sn : Int) (key : List Nat) (i : Nat) (hk : B32 key) (h1 : (i : Int) < (l.length : Int)) (h2 : (i : Int) < 30) (kind N Now : Int) (Sum : List Nat) (hs : B32 Sum) (right : Bool) (hx : l[i]? = some (kind, N, Now, ci Sum, right, ())) (er : jobberbook_Within ((Now, 0, 999, ()), ()) = some ((now, ()), ())) (ek : jobberbook_Within ((idle, 1, 500, ()), ()) = some ((k, ()), ())) (e1 : wr .i64 ((i : Int) + 1) = ((i + 1 : Nat) : Int)) (x0 : 0 ≤ nx) (x1 : nx ≤ (i : Int) + 1) (hkind : kind = 6) : ∃ a' tr' nc' nx' sn', jobberlaw20_SessionPlays_l5 (PD l idle (ci key) (i : Int) 0 0 zz nx sn) = some (.inl (PD l idle (ci key) ((i + 1 : Nat) : Int) a' tr' nc' nx' sn')) ∧ Jo a' tr' nc' ∧ 0 ≤ nx' ∧ nx' ≤ ((i + 1 : Nat) : Int) + 1 := by
  subst hkind
  refine ⟨0, 0, zz, 0, 0, ?_, .inl ⟨rfl, rfl, rfl⟩, ⟨by omega, by omega⟩⟩
  simp only [jobberlaw20_SessionPlays_l5, PD, cond_true, cond_false, ot h1, ot h2, ot (show (0 : Int) ≤ (i : Int) by omega), Int.toNat_natCast, hx, Option.bind_some, er, ek, e1, d01, d02, d03, d04, d05, d06, d10, d12, d13, d14, d15, d16, d20, d21, d23, d24, d25, d26, d30, d31, d32, d34, d35, d36, d40, d41, d42, d43, d45, d46, d50, d51, d52, d53, d54, d56, d60, d61, d62, d63, d64, d65, s_close, beS, s_at, odT, Bool.not_true, cond_false, s_trader_no (show ¬ (0 : Int) = 2 by omega) (show ¬ (0 : Int) = 3 by omega), s_nonce_no (show ¬ (0 : Int) = 1 by omega) (show ¬ (0 : Int) = 2 by omega), zip_self, s_late_no, r_late_no]
theorem pl0_0 (l : List (Int × Int × Int × (List Int) × Bool × Unit)) (idle k now nx sn : Int) (key : List Nat) (i : Nat) (hk : B32 key) (h1 : (i : Int) < (l.length : Int)) (h2 : (i : Int) < 30) (kind N Now : Int) (Sum : List Nat) (hs : B32 Sum) (right : Bool) (hx : l[i]? = some (kind, N, Now, ci Sum, right, ())) (er : jobberbook_Within ((Now, 0, 999, ()), ()) = some ((now, ()), ())) (ek : jobberbook_Within ((idle, 1, 500, ()), ()) = some ((k, ()), ())) (e1 : wr .i64 ((i : Int) + 1) = ((i + 1 : Nat) : Int)) (x0 : 0 ≤ nx) (x1 : nx ≤ (i : Int) + 1) (g1 : ¬ kind = 1) (g2 : ¬ kind = 2) (g3 : ¬ kind = 3) (g4 : ¬ kind = 4) (g5 : ¬ kind = 5) (g6 : ¬ kind = 6) : ∃ a' tr' nc' nx' sn', jobberlaw20_SessionPlays_l5 (PD l idle (ci key) (i : Int) 0 0 zz nx sn) = some (.inl (PD l idle (ci key) ((i + 1 : Nat) : Int) a' tr' nc' nx' sn')) ∧ Jo a' tr' nc' ∧ 0 ≤ nx' ∧ nx' ≤ ((i + 1 : Nat) : Int) + 1 := by
  refine ⟨0, 0, zz, nx, sn, ?_, .inl ⟨rfl, rfl, rfl⟩, ⟨x0, by omega⟩⟩
  simp only [jobberlaw20_SessionPlays_l5, PD, cond_true, cond_false, ot h1, ot h2, ot (show (0 : Int) ≤ (i : Int) by omega), Int.toNat_natCast, hx, Option.bind_some, er, ek, e1, d01, d02, d03, d04, d05, d06, d10, d12, d13, d14, d15, d16, d20, d21, d23, d24, d25, d26, d30, d31, d32, d34, d35, d36, d40, d41, d42, d43, d45, d46, d50, d51, d52, d53, d54, d56, d60, d61, d62, d63, d64, d65, of_ g1, of_ g2, of_ g3, of_ g4, of_ g5, of_ g6, beS, s_at, odT, Bool.not_true, cond_false, s_trader_no (show ¬ (0 : Int) = 2 by omega) (show ¬ (0 : Int) = 3 by omega), s_nonce_no (show ¬ (0 : Int) = 1 by omega) (show ¬ (0 : Int) = 2 by omega), zip_self, s_late_no, r_late_no]
theorem pl1_1 (l : List (Int × Int × Int × (List Int) × Bool × Unit)) (idle k now nx sn : Int) (key : List Nat) (i : Nat) (hk : B32 key) (h1 : (i : Int) < (l.length : Int)) (h2 : (i : Int) < 30) (kind N Now : Int) (Sum : List Nat) (hs : B32 Sum) (right : Bool) (hx : l[i]? = some (kind, N, Now, ci Sum, right, ())) (er : jobberbook_Within ((Now, 0, 999, ()), ()) = some ((now, ()), ())) (ek : jobberbook_Within ((idle, 1, 500, ()), ()) = some ((k, ()), ())) (e1 : wr .i64 ((i : Int) + 1) = ((i + 1 : Nat) : Int)) (x0 : 0 ≤ nx) (x1 : nx ≤ (i : Int) + 1) (n : List Nat) (hn : B32 n) (hkind : kind = 1) : ∃ a' tr' nc' nx' sn', jobberlaw20_SessionPlays_l5 (PD l idle (ci key) (i : Int) 1 0 (ci n) nx sn) = some (.inl (PD l idle (ci key) ((i + 1 : Nat) : Int) a' tr' nc' nx' sn')) ∧ Jo a' tr' nc' ∧ 0 ≤ nx' ∧ nx' ≤ ((i + 1 : Nat) : Int) + 1 := by
  subst hkind
  refine ⟨1, 0, (ci n), nx, sn, ?_, .inr (.inl ⟨_, hn, rfl, rfl, rfl⟩), ⟨x0, by omega⟩⟩
  simp only [jobberlaw20_SessionPlays_l5, PD, cond_true, cond_false, ot h1, ot h2, ot (show (0 : Int) ≤ (i : Int) by omega), Int.toNat_natCast, hx, Option.bind_some, er, ek, e1, d01, d02, d03, d04, d05, d06, d10, d12, d13, d14, d15, d16, d20, d21, d23, d24, d25, d26, d30, d31, d32, d34, d35, d36, d40, d41, d42, d43, d45, d46, d50, d51, d52, d53, d54, d56, d60, d61, d62, d63, d64, d65, s_open_no (show (1 : Int) ≠ 0 by omega), r_open_no (show ¬ (1 : Int) = 0 by omega), beS, s_at, odT, Bool.not_true, cond_false, s_trader_no (show ¬ (1 : Int) = 2 by omega) (show ¬ (1 : Int) = 3 by omega), s_nonce (show (1 : Int) = 1 ∨ (1 : Int) = 2 by omega), zip_self, s_late' (show ¬ (1 : Int) = 0 by omega), r_late (show ¬ (1 : Int) = 0 by omega)]
theorem pl1_2 (l : List (Int × Int × Int × (List Int) × Bool × Unit)) (idle k now nx sn : Int) (key : List Nat) (i : Nat) (hk : B32 key) (h1 : (i : Int) < (l.length : Int)) (h2 : (i : Int) < 30) (kind N Now : Int) (Sum : List Nat) (hs : B32 Sum) (right : Bool) (hx : l[i]? = some (kind, N, Now, ci Sum, right, ())) (er : jobberbook_Within ((Now, 0, 999, ()), ()) = some ((now, ()), ())) (ek : jobberbook_Within ((idle, 1, 500, ()), ()) = some ((k, ()), ())) (e1 : wr .i64 ((i : Int) + 1) = ((i + 1 : Nat) : Int)) (x0 : 0 ≤ nx) (x1 : nx ≤ (i : Int) + 1) (n : List Nat) (hn : B32 n) (hkind : kind = 2) (q : Int) (en : jobberbook_Within ((N, 0, 31, ()), ()) = some ((q, ()), ())) : ∃ a' tr' nc' nx' sn', jobberlaw20_SessionPlays_l5 (PD l idle (ci key) (i : Int) 1 0 (ci n) nx sn) = some (.inl (PD l idle (ci key) ((i + 1 : Nat) : Int) a' tr' nc' nx' sn')) ∧ Jo a' tr' nc' ∧ 0 ≤ nx' ∧ nx' ≤ ((i + 1 : Nat) : Int) + 1 := by
  subst hkind
  refine ⟨2, q, ci n, nx, now, ?_, .inr (.inr (.inl ⟨_, hn, rfl, rfl⟩)), ⟨x0, by omega⟩⟩
  simp only [jobberlaw20_SessionPlays_l5, PD, cond_true, cond_false, ot h1, ot h2, ot (show (0 : Int) ≤ (i : Int) by omega), Int.toNat_natCast, hx, Option.bind_some, er, ek, e1, d01, d02, d03, d04, d05, d06, d10, d12, d13, d14, d15, d16, d20, d21, d23, d24, d25, d26, d30, d31, d32, d34, d35, d36, d40, d41, d42, d43, d45, d46, d50, d51, d52, d53, d54, d56, d60, d61, d62, d63, d64, d65, en, s_hello, r_hello, beS, s_at, odT, Bool.not_true, cond_false, s_trader (show (2 : Int) = 2 ∨ (2 : Int) = 3 by omega), s_nonce (show (2 : Int) = 1 ∨ (2 : Int) = 2 by omega), zip_self, s_late' (show ¬ (2 : Int) = 0 by omega), r_late (show ¬ (2 : Int) = 0 by omega)]
theorem pl1_3t (l : List (Int × Int × Int × (List Int) × Bool × Unit)) (idle k now nx sn : Int) (key : List Nat) (i : Nat) (hk : B32 key) (h1 : (i : Int) < (l.length : Int)) (h2 : (i : Int) < 30) (kind N Now : Int) (Sum : List Nat) (hs : B32 Sum) (right : Bool) (hx : l[i]? = some (kind, N, Now, ci Sum, right, ())) (er : jobberbook_Within ((Now, 0, 999, ()), ()) = some ((now, ()), ())) (ek : jobberbook_Within ((idle, 1, 500, ()), ()) = some ((k, ()), ())) (e1 : wr .i64 ((i : Int) + 1) = ((i + 1 : Nat) : Int)) (x0 : 0 ≤ nx) (x1 : nx ≤ (i : Int) + 1) (n : List Nat) (hn : B32 n) (hkind : kind = 3) (hr : right = true) : ∃ a' tr' nc' nx' sn', jobberlaw20_SessionPlays_l5 (PD l idle (ci key) (i : Int) 1 0 (ci n) nx sn) = some (.inl (PD l idle (ci key) ((i + 1 : Nat) : Int) a' tr' nc' nx' sn')) ∧ Jo a' tr' nc' ∧ 0 ≤ nx' ∧ nx' ≤ ((i + 1 : Nat) : Int) + 1 := by
  subst hkind
  subst hr
  refine ⟨1, 0, (ci n), nx, sn, ?_, .inr (.inl ⟨_, hn, rfl, rfl, rfl⟩), ⟨x0, by omega⟩⟩
  simp only [jobberlaw20_SessionPlays_l5, PD, cond_true, cond_false, ot h1, ot h2, ot (show (0 : Int) ≤ (i : Int) by omega), Int.toNat_natCast, hx, Option.bind_some, er, ek, e1, d01, d02, d03, d04, d05, d06, d10, d12, d13, d14, d15, d16, d20, d21, d23, d24, d25, d26, d30, d31, d32, d34, d35, d36, d40, d41, d42, d43, d45, d46, d50, d51, d52, d53, d54, d56, d60, d61, d62, d63, d64, d65, s_nonce (show (1 : Int) = 1 ∨ (1 : Int) = 2 by omega), tag_ok hk hn, s_answer_no (show ¬ (1 : Int) = 2 by omega), r_answer_no (show ¬ (1 : Int) = 2 by omega), beS, s_at, odT, Bool.not_true, cond_false, s_trader_no (show ¬ (1 : Int) = 2 by omega) (show ¬ (1 : Int) = 3 by omega), s_nonce (show (1 : Int) = 1 ∨ (1 : Int) = 2 by omega), zip_self, s_late' (show ¬ (1 : Int) = 0 by omega), r_late (show ¬ (1 : Int) = 0 by omega)]
theorem pl1_3f (l : List (Int × Int × Int × (List Int) × Bool × Unit)) (idle k now nx sn : Int) (key : List Nat) (i : Nat) (hk : B32 key) (h1 : (i : Int) < (l.length : Int)) (h2 : (i : Int) < 30) (kind N Now : Int) (Sum : List Nat) (hs : B32 Sum) (right : Bool) (hx : l[i]? = some (kind, N, Now, ci Sum, right, ())) (er : jobberbook_Within ((Now, 0, 999, ()), ()) = some ((now, ()), ())) (ek : jobberbook_Within ((idle, 1, 500, ()), ()) = some ((k, ()), ())) (e1 : wr .i64 ((i : Int) + 1) = ((i + 1 : Nat) : Int)) (x0 : 0 ≤ nx) (x1 : nx ≤ (i : Int) + 1) (n : List Nat) (hn : B32 n) (hkind : kind = 3) (hr : right = false) : ∃ a' tr' nc' nx' sn', jobberlaw20_SessionPlays_l5 (PD l idle (ci key) (i : Int) 1 0 (ci n) nx sn) = some (.inl (PD l idle (ci key) ((i + 1 : Nat) : Int) a' tr' nc' nx' sn')) ∧ Jo a' tr' nc' ∧ 0 ≤ nx' ∧ nx' ≤ ((i + 1 : Nat) : Int) + 1 := by
  subst hkind
  subst hr
  refine ⟨1, 0, (ci n), nx, sn, ?_, .inr (.inl ⟨_, hn, rfl, rfl, rfl⟩), ⟨x0, by omega⟩⟩
  simp only [jobberlaw20_SessionPlays_l5, PD, cond_true, cond_false, ot h1, ot h2, ot (show (0 : Int) ≤ (i : Int) by omega), Int.toNat_natCast, hx, Option.bind_some, er, ek, e1, d01, d02, d03, d04, d05, d06, d10, d12, d13, d14, d15, d16, d20, d21, d23, d24, d25, d26, d30, d31, d32, d34, d35, d36, d40, d41, d42, d43, d45, d46, d50, d51, d52, d53, d54, d56, d60, d61, d62, d63, d64, d65, s_answer_no (show ¬ (1 : Int) = 2 by omega), r_answer_no (show ¬ (1 : Int) = 2 by omega), beS, s_at, odT, Bool.not_true, cond_false, s_trader_no (show ¬ (1 : Int) = 2 by omega) (show ¬ (1 : Int) = 3 by omega), s_nonce (show (1 : Int) = 1 ∨ (1 : Int) = 2 by omega), zip_self, s_late' (show ¬ (1 : Int) = 0 by omega), r_late (show ¬ (1 : Int) = 0 by omega)]
theorem pl1_4 (l : List (Int × Int × Int × (List Int) × Bool × Unit)) (idle k now nx sn : Int) (key : List Nat) (i : Nat) (hk : B32 key) (h1 : (i : Int) < (l.length : Int)) (h2 : (i : Int) < 30) (kind N Now : Int) (Sum : List Nat) (hs : B32 Sum) (right : Bool) (hx : l[i]? = some (kind, N, Now, ci Sum, right, ())) (er : jobberbook_Within ((Now, 0, 999, ()), ()) = some ((now, ()), ())) (ek : jobberbook_Within ((idle, 1, 500, ()), ()) = some ((k, ()), ())) (e1 : wr .i64 ((i : Int) + 1) = ((i + 1 : Nat) : Int)) (x0 : 0 ≤ nx) (x1 : nx ≤ (i : Int) + 1) (n : List Nat) (hn : B32 n) (hkind : kind = 4) : ∃ a' tr' nc' nx' sn', jobberlaw20_SessionPlays_l5 (PD l idle (ci key) (i : Int) 1 0 (ci n) nx sn) = some (.inl (PD l idle (ci key) ((i + 1 : Nat) : Int) a' tr' nc' nx' sn')) ∧ Jo a' tr' nc' ∧ 0 ≤ nx' ∧ nx' ≤ ((i + 1 : Nat) : Int) + 1 := by
  subst hkind
  refine ⟨1, 0, (ci n), nx, sn, ?_, .inr (.inl ⟨_, hn, rfl, rfl, rfl⟩), ⟨x0, by omega⟩⟩
  simp only [jobberlaw20_SessionPlays_l5, PD, cond_true, cond_false, ot h1, ot h2, ot (show (0 : Int) ≤ (i : Int) by omega), Int.toNat_natCast, hx, Option.bind_some, er, ek, e1, d01, d02, d03, d04, d05, d06, d10, d12, d13, d14, d15, d16, d20, d21, d23, d24, d25, d26, d30, d31, d32, d34, d35, d36, d40, d41, d42, d43, d45, d46, d50, d51, d52, d53, d54, d56, d60, d61, d62, d63, d64, d65, s_take_no (show (1 : Int) ≠ 3 by omega), r_take_no (show ¬ (1 : Int) = 3 by omega), beS, s_at, odT, Bool.not_true, cond_false, s_trader_no (show ¬ (1 : Int) = 2 by omega) (show ¬ (1 : Int) = 3 by omega), s_nonce (show (1 : Int) = 1 ∨ (1 : Int) = 2 by omega), zip_self, s_late' (show ¬ (1 : Int) = 0 by omega), r_late (show ¬ (1 : Int) = 0 by omega)]
theorem pl1_5 (l : List (Int × Int × Int × (List Int) × Bool × Unit)) (idle k now nx sn : Int) (key : List Nat) (i : Nat) (hk : B32 key) (h1 : (i : Int) < (l.length : Int)) (h2 : (i : Int) < 30) (kind N Now : Int) (Sum : List Nat) (hs : B32 Sum) (right : Bool) (hx : l[i]? = some (kind, N, Now, ci Sum, right, ())) (er : jobberbook_Within ((Now, 0, 999, ()), ()) = some ((now, ()), ())) (ek : jobberbook_Within ((idle, 1, 500, ()), ()) = some ((k, ()), ())) (e1 : wr .i64 ((i : Int) + 1) = ((i + 1 : Nat) : Int)) (x0 : 0 ≤ nx) (x1 : nx ≤ (i : Int) + 1) (n : List Nat) (hn : B32 n) (hkind : kind = 5) : ∃ a' tr' nc' nx' sn', jobberlaw20_SessionPlays_l5 (PD l idle (ci key) (i : Int) 1 0 (ci n) nx sn) = some (.inl (PD l idle (ci key) ((i + 1 : Nat) : Int) a' tr' nc' nx' sn')) ∧ Jo a' tr' nc' ∧ 0 ≤ nx' ∧ nx' ≤ ((i + 1 : Nat) : Int) + 1 := by
  subst hkind
  refine ⟨1, 0, (ci n), nx, sn, ?_, .inr (.inl ⟨_, hn, rfl, rfl, rfl⟩), ⟨x0, by omega⟩⟩
  simp only [jobberlaw20_SessionPlays_l5, PD, cond_true, cond_false, ot h1, ot h2, ot (show (0 : Int) ≤ (i : Int) by omega), Int.toNat_natCast, hx, Option.bind_some, er, ek, e1, d01, d02, d03, d04, d05, d06, d10, d12, d13, d14, d15, d16, d20, d21, d23, d24, d25, d26, d30, d31, d32, d34, d35, d36, d40, d41, d42, d43, d45, d46, d50, d51, d52, d53, d54, d56, d60, d61, d62, d63, d64, d65, s_beat_no (show (1 : Int) ≠ 3 by omega), beS, s_at, odT, Bool.not_true, cond_false, s_trader_no (show ¬ (1 : Int) = 2 by omega) (show ¬ (1 : Int) = 3 by omega), s_nonce (show (1 : Int) = 1 ∨ (1 : Int) = 2 by omega), zip_self, s_late' (show ¬ (1 : Int) = 0 by omega), r_late (show ¬ (1 : Int) = 0 by omega)]
theorem pl1_6 (l : List (Int × Int × Int × (List Int) × Bool × Unit)) (idle k now nx sn : Int) (key : List Nat) (i : Nat) (hk : B32 key) (h1 : (i : Int) < (l.length : Int)) (h2 : (i : Int) < 30) (kind N Now : Int) (Sum : List Nat) (hs : B32 Sum) (right : Bool) (hx : l[i]? = some (kind, N, Now, ci Sum, right, ())) (er : jobberbook_Within ((Now, 0, 999, ()), ()) = some ((now, ()), ())) (ek : jobberbook_Within ((idle, 1, 500, ()), ()) = some ((k, ()), ())) (e1 : wr .i64 ((i : Int) + 1) = ((i + 1 : Nat) : Int)) (x0 : 0 ≤ nx) (x1 : nx ≤ (i : Int) + 1) (n : List Nat) (hn : B32 n) (hkind : kind = 6) : ∃ a' tr' nc' nx' sn', jobberlaw20_SessionPlays_l5 (PD l idle (ci key) (i : Int) 1 0 (ci n) nx sn) = some (.inl (PD l idle (ci key) ((i + 1 : Nat) : Int) a' tr' nc' nx' sn')) ∧ Jo a' tr' nc' ∧ 0 ≤ nx' ∧ nx' ≤ ((i + 1 : Nat) : Int) + 1 := by
  subst hkind
  refine ⟨0, 0, zz, 0, 0, ?_, .inl ⟨rfl, rfl, rfl⟩, ⟨by omega, by omega⟩⟩
  simp only [jobberlaw20_SessionPlays_l5, PD, cond_true, cond_false, ot h1, ot h2, ot (show (0 : Int) ≤ (i : Int) by omega), Int.toNat_natCast, hx, Option.bind_some, er, ek, e1, d01, d02, d03, d04, d05, d06, d10, d12, d13, d14, d15, d16, d20, d21, d23, d24, d25, d26, d30, d31, d32, d34, d35, d36, d40, d41, d42, d43, d45, d46, d50, d51, d52, d53, d54, d56, d60, d61, d62, d63, d64, d65, s_close, beS, s_at, odT, Bool.not_true, cond_false, s_trader_no (show ¬ (0 : Int) = 2 by omega) (show ¬ (0 : Int) = 3 by omega), s_nonce_no (show ¬ (0 : Int) = 1 by omega) (show ¬ (0 : Int) = 2 by omega), zip_self, s_late_no, r_late_no]
theorem pl1_0 (l : List (Int × Int × Int × (List Int) × Bool × Unit)) (idle k now nx sn : Int) (key : List Nat) (i : Nat) (hk : B32 key) (h1 : (i : Int) < (l.length : Int)) (h2 : (i : Int) < 30) (kind N Now : Int) (Sum : List Nat) (hs : B32 Sum) (right : Bool) (hx : l[i]? = some (kind, N, Now, ci Sum, right, ())) (er : jobberbook_Within ((Now, 0, 999, ()), ()) = some ((now, ()), ())) (ek : jobberbook_Within ((idle, 1, 500, ()), ()) = some ((k, ()), ())) (e1 : wr .i64 ((i : Int) + 1) = ((i + 1 : Nat) : Int)) (x0 : 0 ≤ nx) (x1 : nx ≤ (i : Int) + 1) (n : List Nat) (hn : B32 n) (g1 : ¬ kind = 1) (g2 : ¬ kind = 2) (g3 : ¬ kind = 3) (g4 : ¬ kind = 4) (g5 : ¬ kind = 5) (g6 : ¬ kind = 6) : ∃ a' tr' nc' nx' sn', jobberlaw20_SessionPlays_l5 (PD l idle (ci key) (i : Int) 1 0 (ci n) nx sn) = some (.inl (PD l idle (ci key) ((i + 1 : Nat) : Int) a' tr' nc' nx' sn')) ∧ Jo a' tr' nc' ∧ 0 ≤ nx' ∧ nx' ≤ ((i + 1 : Nat) : Int) + 1 := by
  refine ⟨1, 0, (ci n), nx, sn, ?_, .inr (.inl ⟨_, hn, rfl, rfl, rfl⟩), ⟨x0, by omega⟩⟩
  simp only [jobberlaw20_SessionPlays_l5, PD, cond_true, cond_false, ot h1, ot h2, ot (show (0 : Int) ≤ (i : Int) by omega), Int.toNat_natCast, hx, Option.bind_some, er, ek, e1, d01, d02, d03, d04, d05, d06, d10, d12, d13, d14, d15, d16, d20, d21, d23, d24, d25, d26, d30, d31, d32, d34, d35, d36, d40, d41, d42, d43, d45, d46, d50, d51, d52, d53, d54, d56, d60, d61, d62, d63, d64, d65, of_ g1, of_ g2, of_ g3, of_ g4, of_ g5, of_ g6, beS, s_at, odT, Bool.not_true, cond_false, s_trader_no (show ¬ (1 : Int) = 2 by omega) (show ¬ (1 : Int) = 3 by omega), s_nonce (show (1 : Int) = 1 ∨ (1 : Int) = 2 by omega), zip_self, s_late' (show ¬ (1 : Int) = 0 by omega), r_late (show ¬ (1 : Int) = 0 by omega)]
theorem pl2_1 (l : List (Int × Int × Int × (List Int) × Bool × Unit)) (idle k now nx sn : Int) (key : List Nat) (i : Nat) (hk : B32 key) (h1 : (i : Int) < (l.length : Int)) (h2 : (i : Int) < 30) (kind N Now : Int) (Sum : List Nat) (hs : B32 Sum) (right : Bool) (hx : l[i]? = some (kind, N, Now, ci Sum, right, ())) (er : jobberbook_Within ((Now, 0, 999, ()), ()) = some ((now, ()), ())) (ek : jobberbook_Within ((idle, 1, 500, ()), ()) = some ((k, ()), ())) (e1 : wr .i64 ((i : Int) + 1) = ((i + 1 : Nat) : Int)) (x0 : 0 ≤ nx) (x1 : nx ≤ (i : Int) + 1) (n : List Nat) (hn : B32 n) (tr : Int) (hkind : kind = 1) : ∃ a' tr' nc' nx' sn', jobberlaw20_SessionPlays_l5 (PD l idle (ci key) (i : Int) 2 tr (ci n) nx sn) = some (.inl (PD l idle (ci key) ((i + 1 : Nat) : Int) a' tr' nc' nx' sn')) ∧ Jo a' tr' nc' ∧ 0 ≤ nx' ∧ nx' ≤ ((i + 1 : Nat) : Int) + 1 := by
  subst hkind
  refine ⟨2, tr, (ci n), nx, sn, ?_, .inr (.inr (.inl ⟨_, hn, rfl, rfl⟩)), ⟨x0, by omega⟩⟩
  simp only [jobberlaw20_SessionPlays_l5, PD, cond_true, cond_false, ot h1, ot h2, ot (show (0 : Int) ≤ (i : Int) by omega), Int.toNat_natCast, hx, Option.bind_some, er, ek, e1, d01, d02, d03, d04, d05, d06, d10, d12, d13, d14, d15, d16, d20, d21, d23, d24, d25, d26, d30, d31, d32, d34, d35, d36, d40, d41, d42, d43, d45, d46, d50, d51, d52, d53, d54, d56, d60, d61, d62, d63, d64, d65, s_open_no (show (2 : Int) ≠ 0 by omega), r_open_no (show ¬ (2 : Int) = 0 by omega), beS, s_at, odT, Bool.not_true, cond_false, s_trader (show (2 : Int) = 2 ∨ (2 : Int) = 3 by omega), s_nonce (show (2 : Int) = 1 ∨ (2 : Int) = 2 by omega), zip_self, s_late' (show ¬ (2 : Int) = 0 by omega), r_late (show ¬ (2 : Int) = 0 by omega)]
theorem pl2_2 (l : List (Int × Int × Int × (List Int) × Bool × Unit)) (idle k now nx sn : Int) (key : List Nat) (i : Nat) (hk : B32 key) (h1 : (i : Int) < (l.length : Int)) (h2 : (i : Int) < 30) (kind N Now : Int) (Sum : List Nat) (hs : B32 Sum) (right : Bool) (hx : l[i]? = some (kind, N, Now, ci Sum, right, ())) (er : jobberbook_Within ((Now, 0, 999, ()), ()) = some ((now, ()), ())) (ek : jobberbook_Within ((idle, 1, 500, ()), ()) = some ((k, ()), ())) (e1 : wr .i64 ((i : Int) + 1) = ((i + 1 : Nat) : Int)) (x0 : 0 ≤ nx) (x1 : nx ≤ (i : Int) + 1) (n : List Nat) (hn : B32 n) (tr : Int) (hkind : kind = 2) (q : Int) (en : jobberbook_Within ((N, 0, 31, ()), ()) = some ((q, ()), ())) : ∃ a' tr' nc' nx' sn', jobberlaw20_SessionPlays_l5 (PD l idle (ci key) (i : Int) 2 tr (ci n) nx sn) = some (.inl (PD l idle (ci key) ((i + 1 : Nat) : Int) a' tr' nc' nx' sn')) ∧ Jo a' tr' nc' ∧ 0 ≤ nx' ∧ nx' ≤ ((i + 1 : Nat) : Int) + 1 := by
  subst hkind
  refine ⟨2, tr, (ci n), nx, sn, ?_, .inr (.inr (.inl ⟨_, hn, rfl, rfl⟩)), ⟨x0, by omega⟩⟩
  simp only [jobberlaw20_SessionPlays_l5, PD, cond_true, cond_false, ot h1, ot h2, ot (show (0 : Int) ≤ (i : Int) by omega), Int.toNat_natCast, hx, Option.bind_some, er, ek, e1, d01, d02, d03, d04, d05, d06, d10, d12, d13, d14, d15, d16, d20, d21, d23, d24, d25, d26, d30, d31, d32, d34, d35, d36, d40, d41, d42, d43, d45, d46, d50, d51, d52, d53, d54, d56, d60, d61, d62, d63, d64, d65, en, s_hello_no (show (2 : Int) ≠ 1 by omega), r_hello_no (show ¬ (2 : Int) = 1 by omega), beS, s_at, odT, Bool.not_true, cond_false, s_trader (show (2 : Int) = 2 ∨ (2 : Int) = 3 by omega), s_nonce (show (2 : Int) = 1 ∨ (2 : Int) = 2 by omega), zip_self, s_late' (show ¬ (2 : Int) = 0 by omega), r_late (show ¬ (2 : Int) = 0 by omega)]
theorem pl2_3r (l : List (Int × Int × Int × (List Int) × Bool × Unit)) (idle k now nx sn : Int) (key : List Nat) (i : Nat) (hk : B32 key) (h1 : (i : Int) < (l.length : Int)) (h2 : (i : Int) < 30) (kind N Now : Int) (Sum : List Nat) (hs : B32 Sum) (right : Bool) (hx : l[i]? = some (kind, N, Now, ci Sum, right, ())) (er : jobberbook_Within ((Now, 0, 999, ()), ()) = some ((now, ()), ())) (ek : jobberbook_Within ((idle, 1, 500, ()), ()) = some ((k, ()), ())) (e1 : wr .i64 ((i : Int) + 1) = ((i + 1 : Nat) : Int)) (x0 : 0 ≤ nx) (x1 : nx ≤ (i : Int) + 1) (n : List Nat) (hn : B32 n) (tr : Int) (hkind : kind = 3) (hr : right = true) : ∃ a' tr' nc' nx' sn', jobberlaw20_SessionPlays_l5 (PD l idle (ci key) (i : Int) 2 tr (ci n) nx sn) = some (.inl (PD l idle (ci key) ((i + 1 : Nat) : Int) a' tr' nc' nx' sn')) ∧ Jo a' tr' nc' ∧ 0 ≤ nx' ∧ nx' ≤ ((i + 1 : Nat) : Int) + 1 := by
  subst hkind
  subst hr
  refine ⟨3, tr, zz, 1, now, ?_, .inr (.inr (.inr ⟨rfl, rfl⟩)), ⟨by omega, by omega⟩⟩
  simp only [jobberlaw20_SessionPlays_l5, PD, cond_true, cond_false, ot h1, ot h2, ot (show (0 : Int) ≤ (i : Int) by omega), Int.toNat_natCast, hx, Option.bind_some, er, ek, e1, d01, d02, d03, d04, d05, d06, d10, d12, d13, d14, d15, d16, d20, d21, d23, d24, d25, d26, d30, d31, d32, d34, d35, d36, d40, d41, d42, d43, d45, d46, d50, d51, d52, d53, d54, d56, d60, d61, d62, d63, d64, d65, s_nonce (show (2 : Int) = 1 ∨ (2 : Int) = 2 by omega), tag_ok hk hn, s_answer hk hn, r_answer hk hn, beS, s_at, odT, Bool.not_true, cond_false, s_trader (show (3 : Int) = 2 ∨ (3 : Int) = 3 by omega), s_nonce_no (show ¬ (3 : Int) = 1 by omega) (show ¬ (3 : Int) = 2 by omega), zip_self, s_late' (show ¬ (3 : Int) = 0 by omega), r_late (show ¬ (3 : Int) = 0 by omega)]
theorem pl2_3e (l : List (Int × Int × Int × (List Int) × Bool × Unit)) (idle k now nx sn : Int) (key : List Nat) (i : Nat) (hk : B32 key) (h1 : (i : Int) < (l.length : Int)) (h2 : (i : Int) < 30) (kind N Now : Int) (Sum : List Nat) (hs : B32 Sum) (right : Bool) (hx : l[i]? = some (kind, N, Now, ci Sum, right, ())) (er : jobberbook_Within ((Now, 0, 999, ()), ()) = some ((now, ()), ())) (ek : jobberbook_Within ((idle, 1, 500, ()), ()) = some ((k, ()), ())) (e1 : wr .i64 ((i : Int) + 1) = ((i + 1 : Nat) : Int)) (x0 : 0 ≤ nx) (x1 : nx ≤ (i : Int) + 1) (n : List Nat) (hn : B32 n) (tr : Int) (hkind : kind = 3) (hr : right = false) (hq : Sum = macN key n) : ∃ a' tr' nc' nx' sn', jobberlaw20_SessionPlays_l5 (PD l idle (ci key) (i : Int) 2 tr (ci n) nx sn) = some (.inl (PD l idle (ci key) ((i + 1 : Nat) : Int) a' tr' nc' nx' sn')) ∧ Jo a' tr' nc' ∧ 0 ≤ nx' ∧ nx' ≤ ((i + 1 : Nat) : Int) + 1 := by
  subst hkind
  subst hr
  subst hq
  refine ⟨3, tr, zz, 1, now, ?_, .inr (.inr (.inr ⟨rfl, rfl⟩)), ⟨by omega, by omega⟩⟩
  simp only [jobberlaw20_SessionPlays_l5, PD, cond_true, cond_false, ot h1, ot h2, ot (show (0 : Int) ≤ (i : Int) by omega), Int.toNat_natCast, hx, Option.bind_some, er, ek, e1, d01, d02, d03, d04, d05, d06, d10, d12, d13, d14, d15, d16, d20, d21, d23, d24, d25, d26, d30, d31, d32, d34, d35, d36, d40, d41, d42, d43, d45, d46, d50, d51, d52, d53, d54, d56, d60, d61, d62, d63, d64, d65, s_answer hk hn, r_answer hk hn, beS, s_at, odT, Bool.not_true, cond_false, s_trader (show (3 : Int) = 2 ∨ (3 : Int) = 3 by omega), s_nonce_no (show ¬ (3 : Int) = 1 by omega) (show ¬ (3 : Int) = 2 by omega), zip_self, s_late' (show ¬ (3 : Int) = 0 by omega), r_late (show ¬ (3 : Int) = 0 by omega)]
theorem pl2_3n (l : List (Int × Int × Int × (List Int) × Bool × Unit)) (idle k now nx sn : Int) (key : List Nat) (i : Nat) (hk : B32 key) (h1 : (i : Int) < (l.length : Int)) (h2 : (i : Int) < 30) (kind N Now : Int) (Sum : List Nat) (hs : B32 Sum) (right : Bool) (hx : l[i]? = some (kind, N, Now, ci Sum, right, ())) (er : jobberbook_Within ((Now, 0, 999, ()), ()) = some ((now, ()), ())) (ek : jobberbook_Within ((idle, 1, 500, ()), ()) = some ((k, ()), ())) (e1 : wr .i64 ((i : Int) + 1) = ((i + 1 : Nat) : Int)) (x0 : 0 ≤ nx) (x1 : nx ≤ (i : Int) + 1) (n : List Nat) (hn : B32 n) (tr : Int) (hkind : kind = 3) (hr : right = false) (hq : Sum ≠ macN key n) : ∃ a' tr' nc' nx' sn', jobberlaw20_SessionPlays_l5 (PD l idle (ci key) (i : Int) 2 tr (ci n) nx sn) = some (.inl (PD l idle (ci key) ((i + 1 : Nat) : Int) a' tr' nc' nx' sn')) ∧ Jo a' tr' nc' ∧ 0 ≤ nx' ∧ nx' ≤ ((i + 1 : Nat) : Int) + 1 := by
  subst hkind
  subst hr
  refine ⟨0, 0, zz, 0, 0, ?_, .inl ⟨rfl, rfl, rfl⟩, ⟨by omega, by omega⟩⟩
  simp only [jobberlaw20_SessionPlays_l5, PD, cond_true, cond_false, ot h1, ot h2, ot (show (0 : Int) ≤ (i : Int) by omega), Int.toNat_natCast, hx, Option.bind_some, er, ek, e1, d01, d02, d03, d04, d05, d06, d10, d12, d13, d14, d15, d16, d20, d21, d23, d24, d25, d26, d30, d31, d32, d34, d35, d36, d40, d41, d42, d43, d45, d46, d50, d51, d52, d53, d54, d56, d60, d61, d62, d63, d64, d65, s_answer_ne hk hn hs hq, r_answer_ne hk hn hs hq, beS, s_at, odT, Bool.not_true, cond_false, s_trader_no (show ¬ (0 : Int) = 2 by omega) (show ¬ (0 : Int) = 3 by omega), s_nonce_no (show ¬ (0 : Int) = 1 by omega) (show ¬ (0 : Int) = 2 by omega), zip_self, s_late_no, r_late_no]
theorem pl2_4 (l : List (Int × Int × Int × (List Int) × Bool × Unit)) (idle k now nx sn : Int) (key : List Nat) (i : Nat) (hk : B32 key) (h1 : (i : Int) < (l.length : Int)) (h2 : (i : Int) < 30) (kind N Now : Int) (Sum : List Nat) (hs : B32 Sum) (right : Bool) (hx : l[i]? = some (kind, N, Now, ci Sum, right, ())) (er : jobberbook_Within ((Now, 0, 999, ()), ()) = some ((now, ()), ())) (ek : jobberbook_Within ((idle, 1, 500, ()), ()) = some ((k, ()), ())) (e1 : wr .i64 ((i : Int) + 1) = ((i + 1 : Nat) : Int)) (x0 : 0 ≤ nx) (x1 : nx ≤ (i : Int) + 1) (n : List Nat) (hn : B32 n) (tr : Int) (hkind : kind = 4) : ∃ a' tr' nc' nx' sn', jobberlaw20_SessionPlays_l5 (PD l idle (ci key) (i : Int) 2 tr (ci n) nx sn) = some (.inl (PD l idle (ci key) ((i + 1 : Nat) : Int) a' tr' nc' nx' sn')) ∧ Jo a' tr' nc' ∧ 0 ≤ nx' ∧ nx' ≤ ((i + 1 : Nat) : Int) + 1 := by
  subst hkind
  refine ⟨2, tr, (ci n), nx, sn, ?_, .inr (.inr (.inl ⟨_, hn, rfl, rfl⟩)), ⟨x0, by omega⟩⟩
  simp only [jobberlaw20_SessionPlays_l5, PD, cond_true, cond_false, ot h1, ot h2, ot (show (0 : Int) ≤ (i : Int) by omega), Int.toNat_natCast, hx, Option.bind_some, er, ek, e1, d01, d02, d03, d04, d05, d06, d10, d12, d13, d14, d15, d16, d20, d21, d23, d24, d25, d26, d30, d31, d32, d34, d35, d36, d40, d41, d42, d43, d45, d46, d50, d51, d52, d53, d54, d56, d60, d61, d62, d63, d64, d65, s_take_no (show (2 : Int) ≠ 3 by omega), r_take_no (show ¬ (2 : Int) = 3 by omega), beS, s_at, odT, Bool.not_true, cond_false, s_trader (show (2 : Int) = 2 ∨ (2 : Int) = 3 by omega), s_nonce (show (2 : Int) = 1 ∨ (2 : Int) = 2 by omega), zip_self, s_late' (show ¬ (2 : Int) = 0 by omega), r_late (show ¬ (2 : Int) = 0 by omega)]
theorem pl2_5 (l : List (Int × Int × Int × (List Int) × Bool × Unit)) (idle k now nx sn : Int) (key : List Nat) (i : Nat) (hk : B32 key) (h1 : (i : Int) < (l.length : Int)) (h2 : (i : Int) < 30) (kind N Now : Int) (Sum : List Nat) (hs : B32 Sum) (right : Bool) (hx : l[i]? = some (kind, N, Now, ci Sum, right, ())) (er : jobberbook_Within ((Now, 0, 999, ()), ()) = some ((now, ()), ())) (ek : jobberbook_Within ((idle, 1, 500, ()), ()) = some ((k, ()), ())) (e1 : wr .i64 ((i : Int) + 1) = ((i + 1 : Nat) : Int)) (x0 : 0 ≤ nx) (x1 : nx ≤ (i : Int) + 1) (n : List Nat) (hn : B32 n) (tr : Int) (hkind : kind = 5) : ∃ a' tr' nc' nx' sn', jobberlaw20_SessionPlays_l5 (PD l idle (ci key) (i : Int) 2 tr (ci n) nx sn) = some (.inl (PD l idle (ci key) ((i + 1 : Nat) : Int) a' tr' nc' nx' sn')) ∧ Jo a' tr' nc' ∧ 0 ≤ nx' ∧ nx' ≤ ((i + 1 : Nat) : Int) + 1 := by
  subst hkind
  refine ⟨2, tr, (ci n), nx, sn, ?_, .inr (.inr (.inl ⟨_, hn, rfl, rfl⟩)), ⟨x0, by omega⟩⟩
  simp only [jobberlaw20_SessionPlays_l5, PD, cond_true, cond_false, ot h1, ot h2, ot (show (0 : Int) ≤ (i : Int) by omega), Int.toNat_natCast, hx, Option.bind_some, er, ek, e1, d01, d02, d03, d04, d05, d06, d10, d12, d13, d14, d15, d16, d20, d21, d23, d24, d25, d26, d30, d31, d32, d34, d35, d36, d40, d41, d42, d43, d45, d46, d50, d51, d52, d53, d54, d56, d60, d61, d62, d63, d64, d65, s_beat_no (show (2 : Int) ≠ 3 by omega), beS, s_at, odT, Bool.not_true, cond_false, s_trader (show (2 : Int) = 2 ∨ (2 : Int) = 3 by omega), s_nonce (show (2 : Int) = 1 ∨ (2 : Int) = 2 by omega), zip_self, s_late' (show ¬ (2 : Int) = 0 by omega), r_late (show ¬ (2 : Int) = 0 by omega)]
theorem pl2_6 (l : List (Int × Int × Int × (List Int) × Bool × Unit)) (idle k now nx sn : Int) (key : List Nat) (i : Nat) (hk : B32 key) (h1 : (i : Int) < (l.length : Int)) (h2 : (i : Int) < 30) (kind N Now : Int) (Sum : List Nat) (hs : B32 Sum) (right : Bool) (hx : l[i]? = some (kind, N, Now, ci Sum, right, ())) (er : jobberbook_Within ((Now, 0, 999, ()), ()) = some ((now, ()), ())) (ek : jobberbook_Within ((idle, 1, 500, ()), ()) = some ((k, ()), ())) (e1 : wr .i64 ((i : Int) + 1) = ((i + 1 : Nat) : Int)) (x0 : 0 ≤ nx) (x1 : nx ≤ (i : Int) + 1) (n : List Nat) (hn : B32 n) (tr : Int) (hkind : kind = 6) : ∃ a' tr' nc' nx' sn', jobberlaw20_SessionPlays_l5 (PD l idle (ci key) (i : Int) 2 tr (ci n) nx sn) = some (.inl (PD l idle (ci key) ((i + 1 : Nat) : Int) a' tr' nc' nx' sn')) ∧ Jo a' tr' nc' ∧ 0 ≤ nx' ∧ nx' ≤ ((i + 1 : Nat) : Int) + 1 := by
  subst hkind
  refine ⟨0, 0, zz, 0, 0, ?_, .inl ⟨rfl, rfl, rfl⟩, ⟨by omega, by omega⟩⟩
  simp only [jobberlaw20_SessionPlays_l5, PD, cond_true, cond_false, ot h1, ot h2, ot (show (0 : Int) ≤ (i : Int) by omega), Int.toNat_natCast, hx, Option.bind_some, er, ek, e1, d01, d02, d03, d04, d05, d06, d10, d12, d13, d14, d15, d16, d20, d21, d23, d24, d25, d26, d30, d31, d32, d34, d35, d36, d40, d41, d42, d43, d45, d46, d50, d51, d52, d53, d54, d56, d60, d61, d62, d63, d64, d65, s_close, beS, s_at, odT, Bool.not_true, cond_false, s_trader_no (show ¬ (0 : Int) = 2 by omega) (show ¬ (0 : Int) = 3 by omega), s_nonce_no (show ¬ (0 : Int) = 1 by omega) (show ¬ (0 : Int) = 2 by omega), zip_self, s_late_no, r_late_no]
theorem pl2_0 (l : List (Int × Int × Int × (List Int) × Bool × Unit)) (idle k now nx sn : Int) (key : List Nat) (i : Nat) (hk : B32 key) (h1 : (i : Int) < (l.length : Int)) (h2 : (i : Int) < 30) (kind N Now : Int) (Sum : List Nat) (hs : B32 Sum) (right : Bool) (hx : l[i]? = some (kind, N, Now, ci Sum, right, ())) (er : jobberbook_Within ((Now, 0, 999, ()), ()) = some ((now, ()), ())) (ek : jobberbook_Within ((idle, 1, 500, ()), ()) = some ((k, ()), ())) (e1 : wr .i64 ((i : Int) + 1) = ((i + 1 : Nat) : Int)) (x0 : 0 ≤ nx) (x1 : nx ≤ (i : Int) + 1) (n : List Nat) (hn : B32 n) (tr : Int) (g1 : ¬ kind = 1) (g2 : ¬ kind = 2) (g3 : ¬ kind = 3) (g4 : ¬ kind = 4) (g5 : ¬ kind = 5) (g6 : ¬ kind = 6) : ∃ a' tr' nc' nx' sn', jobberlaw20_SessionPlays_l5 (PD l idle (ci key) (i : Int) 2 tr (ci n) nx sn) = some (.inl (PD l idle (ci key) ((i + 1 : Nat) : Int) a' tr' nc' nx' sn')) ∧ Jo a' tr' nc' ∧ 0 ≤ nx' ∧ nx' ≤ ((i + 1 : Nat) : Int) + 1 := by
  refine ⟨2, tr, (ci n), nx, sn, ?_, .inr (.inr (.inl ⟨_, hn, rfl, rfl⟩)), ⟨x0, by omega⟩⟩
  simp only [jobberlaw20_SessionPlays_l5, PD, cond_true, cond_false, ot h1, ot h2, ot (show (0 : Int) ≤ (i : Int) by omega), Int.toNat_natCast, hx, Option.bind_some, er, ek, e1, d01, d02, d03, d04, d05, d06, d10, d12, d13, d14, d15, d16, d20, d21, d23, d24, d25, d26, d30, d31, d32, d34, d35, d36, d40, d41, d42, d43, d45, d46, d50, d51, d52, d53, d54, d56, d60, d61, d62, d63, d64, d65, of_ g1, of_ g2, of_ g3, of_ g4, of_ g5, of_ g6, beS, s_at, odT, Bool.not_true, cond_false, s_trader (show (2 : Int) = 2 ∨ (2 : Int) = 3 by omega), s_nonce (show (2 : Int) = 1 ∨ (2 : Int) = 2 by omega), zip_self, s_late' (show ¬ (2 : Int) = 0 by omega), r_late (show ¬ (2 : Int) = 0 by omega)]
theorem pl3_1 (l : List (Int × Int × Int × (List Int) × Bool × Unit)) (idle k now nx sn : Int) (key : List Nat) (i : Nat) (hk : B32 key) (h1 : (i : Int) < (l.length : Int)) (h2 : (i : Int) < 30) (kind N Now : Int) (Sum : List Nat) (hs : B32 Sum) (right : Bool) (hx : l[i]? = some (kind, N, Now, ci Sum, right, ())) (er : jobberbook_Within ((Now, 0, 999, ()), ()) = some ((now, ()), ())) (ek : jobberbook_Within ((idle, 1, 500, ()), ()) = some ((k, ()), ())) (e1 : wr .i64 ((i : Int) + 1) = ((i + 1 : Nat) : Int)) (x0 : 0 ≤ nx) (x1 : nx ≤ (i : Int) + 1) (tr : Int) (hkind : kind = 1) : ∃ a' tr' nc' nx' sn', jobberlaw20_SessionPlays_l5 (PD l idle (ci key) (i : Int) 3 tr zz nx sn) = some (.inl (PD l idle (ci key) ((i + 1 : Nat) : Int) a' tr' nc' nx' sn')) ∧ Jo a' tr' nc' ∧ 0 ≤ nx' ∧ nx' ≤ ((i + 1 : Nat) : Int) + 1 := by
  subst hkind
  refine ⟨3, tr, zz, nx, sn, ?_, .inr (.inr (.inr ⟨rfl, rfl⟩)), ⟨x0, by omega⟩⟩
  simp only [jobberlaw20_SessionPlays_l5, PD, cond_true, cond_false, ot h1, ot h2, ot (show (0 : Int) ≤ (i : Int) by omega), Int.toNat_natCast, hx, Option.bind_some, er, ek, e1, d01, d02, d03, d04, d05, d06, d10, d12, d13, d14, d15, d16, d20, d21, d23, d24, d25, d26, d30, d31, d32, d34, d35, d36, d40, d41, d42, d43, d45, d46, d50, d51, d52, d53, d54, d56, d60, d61, d62, d63, d64, d65, s_open_no (show (3 : Int) ≠ 0 by omega), r_open_no (show ¬ (3 : Int) = 0 by omega), beS, s_at, odT, Bool.not_true, cond_false, s_trader (show (3 : Int) = 2 ∨ (3 : Int) = 3 by omega), s_nonce_no (show ¬ (3 : Int) = 1 by omega) (show ¬ (3 : Int) = 2 by omega), zip_self, s_late' (show ¬ (3 : Int) = 0 by omega), r_late (show ¬ (3 : Int) = 0 by omega)]
theorem pl3_2 (l : List (Int × Int × Int × (List Int) × Bool × Unit)) (idle k now nx sn : Int) (key : List Nat) (i : Nat) (hk : B32 key) (h1 : (i : Int) < (l.length : Int)) (h2 : (i : Int) < 30) (kind N Now : Int) (Sum : List Nat) (hs : B32 Sum) (right : Bool) (hx : l[i]? = some (kind, N, Now, ci Sum, right, ())) (er : jobberbook_Within ((Now, 0, 999, ()), ()) = some ((now, ()), ())) (ek : jobberbook_Within ((idle, 1, 500, ()), ()) = some ((k, ()), ())) (e1 : wr .i64 ((i : Int) + 1) = ((i + 1 : Nat) : Int)) (x0 : 0 ≤ nx) (x1 : nx ≤ (i : Int) + 1) (tr : Int) (hkind : kind = 2) (q : Int) (en : jobberbook_Within ((N, 0, 31, ()), ()) = some ((q, ()), ())) : ∃ a' tr' nc' nx' sn', jobberlaw20_SessionPlays_l5 (PD l idle (ci key) (i : Int) 3 tr zz nx sn) = some (.inl (PD l idle (ci key) ((i + 1 : Nat) : Int) a' tr' nc' nx' sn')) ∧ Jo a' tr' nc' ∧ 0 ≤ nx' ∧ nx' ≤ ((i + 1 : Nat) : Int) + 1 := by
  subst hkind
  refine ⟨3, tr, zz, nx, sn, ?_, .inr (.inr (.inr ⟨rfl, rfl⟩)), ⟨x0, by omega⟩⟩
  simp only [jobberlaw20_SessionPlays_l5, PD, cond_true, cond_false, ot h1, ot h2, ot (show (0 : Int) ≤ (i : Int) by omega), Int.toNat_natCast, hx, Option.bind_some, er, ek, e1, d01, d02, d03, d04, d05, d06, d10, d12, d13, d14, d15, d16, d20, d21, d23, d24, d25, d26, d30, d31, d32, d34, d35, d36, d40, d41, d42, d43, d45, d46, d50, d51, d52, d53, d54, d56, d60, d61, d62, d63, d64, d65, en, s_hello_no (show (3 : Int) ≠ 1 by omega), r_hello_no (show ¬ (3 : Int) = 1 by omega), beS, s_at, odT, Bool.not_true, cond_false, s_trader (show (3 : Int) = 2 ∨ (3 : Int) = 3 by omega), s_nonce_no (show ¬ (3 : Int) = 1 by omega) (show ¬ (3 : Int) = 2 by omega), zip_self, s_late' (show ¬ (3 : Int) = 0 by omega), r_late (show ¬ (3 : Int) = 0 by omega)]
theorem pl3_3t (l : List (Int × Int × Int × (List Int) × Bool × Unit)) (idle k now nx sn : Int) (key : List Nat) (i : Nat) (hk : B32 key) (h1 : (i : Int) < (l.length : Int)) (h2 : (i : Int) < 30) (kind N Now : Int) (Sum : List Nat) (hs : B32 Sum) (right : Bool) (hx : l[i]? = some (kind, N, Now, ci Sum, right, ())) (er : jobberbook_Within ((Now, 0, 999, ()), ()) = some ((now, ()), ())) (ek : jobberbook_Within ((idle, 1, 500, ()), ()) = some ((k, ()), ())) (e1 : wr .i64 ((i : Int) + 1) = ((i + 1 : Nat) : Int)) (x0 : 0 ≤ nx) (x1 : nx ≤ (i : Int) + 1) (tr : Int) (hkind : kind = 3) (hr : right = true) : ∃ a' tr' nc' nx' sn', jobberlaw20_SessionPlays_l5 (PD l idle (ci key) (i : Int) 3 tr zz nx sn) = some (.inl (PD l idle (ci key) ((i + 1 : Nat) : Int) a' tr' nc' nx' sn')) ∧ Jo a' tr' nc' ∧ 0 ≤ nx' ∧ nx' ≤ ((i + 1 : Nat) : Int) + 1 := by
  subst hkind
  subst hr
  refine ⟨3, tr, zz, nx, sn, ?_, .inr (.inr (.inr ⟨rfl, rfl⟩)), ⟨x0, by omega⟩⟩
  simp only [jobberlaw20_SessionPlays_l5, PD, cond_true, cond_false, ot h1, ot h2, ot (show (0 : Int) ≤ (i : Int) by omega), Int.toNat_natCast, hx, Option.bind_some, er, ek, e1, d01, d02, d03, d04, d05, d06, d10, d12, d13, d14, d15, d16, d20, d21, d23, d24, d25, d26, d30, d31, d32, d34, d35, d36, d40, d41, d42, d43, d45, d46, d50, d51, d52, d53, d54, d56, d60, d61, d62, d63, d64, d65, s_nonce_no (show ¬ (3 : Int) = 1 by omega) (show ¬ (3 : Int) = 2 by omega), tag_zz hk, s_answer_no (show ¬ (3 : Int) = 2 by omega), r_answer_no (show ¬ (3 : Int) = 2 by omega), beS, s_at, odT, Bool.not_true, cond_false, s_trader (show (3 : Int) = 2 ∨ (3 : Int) = 3 by omega), s_nonce_no (show ¬ (3 : Int) = 1 by omega) (show ¬ (3 : Int) = 2 by omega), zip_self, s_late' (show ¬ (3 : Int) = 0 by omega), r_late (show ¬ (3 : Int) = 0 by omega)]
theorem pl3_3f (l : List (Int × Int × Int × (List Int) × Bool × Unit)) (idle k now nx sn : Int) (key : List Nat) (i : Nat) (hk : B32 key) (h1 : (i : Int) < (l.length : Int)) (h2 : (i : Int) < 30) (kind N Now : Int) (Sum : List Nat) (hs : B32 Sum) (right : Bool) (hx : l[i]? = some (kind, N, Now, ci Sum, right, ())) (er : jobberbook_Within ((Now, 0, 999, ()), ()) = some ((now, ()), ())) (ek : jobberbook_Within ((idle, 1, 500, ()), ()) = some ((k, ()), ())) (e1 : wr .i64 ((i : Int) + 1) = ((i + 1 : Nat) : Int)) (x0 : 0 ≤ nx) (x1 : nx ≤ (i : Int) + 1) (tr : Int) (hkind : kind = 3) (hr : right = false) : ∃ a' tr' nc' nx' sn', jobberlaw20_SessionPlays_l5 (PD l idle (ci key) (i : Int) 3 tr zz nx sn) = some (.inl (PD l idle (ci key) ((i + 1 : Nat) : Int) a' tr' nc' nx' sn')) ∧ Jo a' tr' nc' ∧ 0 ≤ nx' ∧ nx' ≤ ((i + 1 : Nat) : Int) + 1 := by
  subst hkind
  subst hr
  refine ⟨3, tr, zz, nx, sn, ?_, .inr (.inr (.inr ⟨rfl, rfl⟩)), ⟨x0, by omega⟩⟩
  simp only [jobberlaw20_SessionPlays_l5, PD, cond_true, cond_false, ot h1, ot h2, ot (show (0 : Int) ≤ (i : Int) by omega), Int.toNat_natCast, hx, Option.bind_some, er, ek, e1, d01, d02, d03, d04, d05, d06, d10, d12, d13, d14, d15, d16, d20, d21, d23, d24, d25, d26, d30, d31, d32, d34, d35, d36, d40, d41, d42, d43, d45, d46, d50, d51, d52, d53, d54, d56, d60, d61, d62, d63, d64, d65, s_answer_no (show ¬ (3 : Int) = 2 by omega), r_answer_no (show ¬ (3 : Int) = 2 by omega), beS, s_at, odT, Bool.not_true, cond_false, s_trader (show (3 : Int) = 2 ∨ (3 : Int) = 3 by omega), s_nonce_no (show ¬ (3 : Int) = 1 by omega) (show ¬ (3 : Int) = 2 by omega), zip_self, s_late' (show ¬ (3 : Int) = 0 by omega), r_late (show ¬ (3 : Int) = 0 by omega)]
theorem pl3_4e (l : List (Int × Int × Int × (List Int) × Bool × Unit)) (idle k now nx sn : Int) (key : List Nat) (i : Nat) (hk : B32 key) (h1 : (i : Int) < (l.length : Int)) (h2 : (i : Int) < 30) (kind N Now : Int) (Sum : List Nat) (hs : B32 Sum) (right : Bool) (hx : l[i]? = some (kind, N, Now, ci Sum, right, ())) (er : jobberbook_Within ((Now, 0, 999, ()), ()) = some ((now, ()), ())) (ek : jobberbook_Within ((idle, 1, 500, ()), ()) = some ((k, ()), ())) (e1 : wr .i64 ((i : Int) + 1) = ((i + 1 : Nat) : Int)) (x0 : 0 ≤ nx) (x1 : nx ≤ (i : Int) + 1) (tr : Int) (hkind : kind = 4) (hq : nx = N) : ∃ a' tr' nc' nx' sn', jobberlaw20_SessionPlays_l5 (PD l idle (ci key) (i : Int) 3 tr zz nx sn) = some (.inl (PD l idle (ci key) ((i + 1 : Nat) : Int) a' tr' nc' nx' sn')) ∧ Jo a' tr' nc' ∧ 0 ≤ nx' ∧ nx' ≤ ((i + 1 : Nat) : Int) + 1 := by
  subst hkind
  subst hq
  refine ⟨3, tr, zz, nx + 1, now, ?_, .inr (.inr (.inr ⟨rfl, rfl⟩)), ⟨by omega, by omega⟩⟩
  simp only [jobberlaw20_SessionPlays_l5, PD, cond_true, cond_false, ot h1, ot h2, ot (show (0 : Int) ≤ (i : Int) by omega), Int.toNat_natCast, hx, Option.bind_some, er, ek, e1, d01, d02, d03, d04, d05, d06, d10, d12, d13, d14, d15, d16, d20, d21, d23, d24, d25, d26, d30, d31, d32, d34, d35, d36, d40, d41, d42, d43, d45, d46, d50, d51, d52, d53, d54, d56, d60, d61, d62, d63, d64, d65, s_take zz x0 (show nx < 1073741824 by omega), r_take zz x0 (show nx < 1073741824 by omega), beS, s_at, odT, Bool.not_true, cond_false, s_trader (show (3 : Int) = 2 ∨ (3 : Int) = 3 by omega), s_nonce_no (show ¬ (3 : Int) = 1 by omega) (show ¬ (3 : Int) = 2 by omega), zip_self, s_late' (show ¬ (3 : Int) = 0 by omega), r_late (show ¬ (3 : Int) = 0 by omega)]
theorem pl3_4n (l : List (Int × Int × Int × (List Int) × Bool × Unit)) (idle k now nx sn : Int) (key : List Nat) (i : Nat) (hk : B32 key) (h1 : (i : Int) < (l.length : Int)) (h2 : (i : Int) < 30) (kind N Now : Int) (Sum : List Nat) (hs : B32 Sum) (right : Bool) (hx : l[i]? = some (kind, N, Now, ci Sum, right, ())) (er : jobberbook_Within ((Now, 0, 999, ()), ()) = some ((now, ()), ())) (ek : jobberbook_Within ((idle, 1, 500, ()), ()) = some ((k, ()), ())) (e1 : wr .i64 ((i : Int) + 1) = ((i + 1 : Nat) : Int)) (x0 : 0 ≤ nx) (x1 : nx ≤ (i : Int) + 1) (tr : Int) (hkind : kind = 4) (hq : ¬ N = nx) : ∃ a' tr' nc' nx' sn', jobberlaw20_SessionPlays_l5 (PD l idle (ci key) (i : Int) 3 tr zz nx sn) = some (.inl (PD l idle (ci key) ((i + 1 : Nat) : Int) a' tr' nc' nx' sn')) ∧ Jo a' tr' nc' ∧ 0 ≤ nx' ∧ nx' ≤ ((i + 1 : Nat) : Int) + 1 := by
  subst hkind
  refine ⟨3, tr, zz, nx, now, ?_, .inr (.inr (.inr ⟨rfl, rfl⟩)), ⟨by omega, by omega⟩⟩
  simp only [jobberlaw20_SessionPlays_l5, PD, cond_true, cond_false, ot h1, ot h2, ot (show (0 : Int) ≤ (i : Int) by omega), Int.toNat_natCast, hx, Option.bind_some, er, ek, e1, d01, d02, d03, d04, d05, d06, d10, d12, d13, d14, d15, d16, d20, d21, d23, d24, d25, d26, d30, d31, d32, d34, d35, d36, d40, d41, d42, d43, d45, d46, d50, d51, d52, d53, d54, d56, d60, d61, d62, d63, d64, d65, s_take_other zz hq, r_take_other zz hq, beS, s_at, odT, Bool.not_true, cond_false, s_trader (show (3 : Int) = 2 ∨ (3 : Int) = 3 by omega), s_nonce_no (show ¬ (3 : Int) = 1 by omega) (show ¬ (3 : Int) = 2 by omega), zip_self, s_late' (show ¬ (3 : Int) = 0 by omega), r_late (show ¬ (3 : Int) = 0 by omega)]
theorem pl3_5 (l : List (Int × Int × Int × (List Int) × Bool × Unit)) (idle k now nx sn : Int) (key : List Nat) (i : Nat) (hk : B32 key) (h1 : (i : Int) < (l.length : Int)) (h2 : (i : Int) < 30) (kind N Now : Int) (Sum : List Nat) (hs : B32 Sum) (right : Bool) (hx : l[i]? = some (kind, N, Now, ci Sum, right, ())) (er : jobberbook_Within ((Now, 0, 999, ()), ()) = some ((now, ()), ())) (ek : jobberbook_Within ((idle, 1, 500, ()), ()) = some ((k, ()), ())) (e1 : wr .i64 ((i : Int) + 1) = ((i + 1 : Nat) : Int)) (x0 : 0 ≤ nx) (x1 : nx ≤ (i : Int) + 1) (tr : Int) (hkind : kind = 5) : ∃ a' tr' nc' nx' sn', jobberlaw20_SessionPlays_l5 (PD l idle (ci key) (i : Int) 3 tr zz nx sn) = some (.inl (PD l idle (ci key) ((i + 1 : Nat) : Int) a' tr' nc' nx' sn')) ∧ Jo a' tr' nc' ∧ 0 ≤ nx' ∧ nx' ≤ ((i + 1 : Nat) : Int) + 1 := by
  subst hkind
  refine ⟨3, tr, zz, nx, now, ?_, .inr (.inr (.inr ⟨rfl, rfl⟩)), ⟨x0, by omega⟩⟩
  simp only [jobberlaw20_SessionPlays_l5, PD, cond_true, cond_false, ot h1, ot h2, ot (show (0 : Int) ≤ (i : Int) by omega), Int.toNat_natCast, hx, Option.bind_some, er, ek, e1, d01, d02, d03, d04, d05, d06, d10, d12, d13, d14, d15, d16, d20, d21, d23, d24, d25, d26, d30, d31, d32, d34, d35, d36, d40, d41, d42, d43, d45, d46, d50, d51, d52, d53, d54, d56, d60, d61, d62, d63, d64, d65, s_beat, beS, s_at, odT, Bool.not_true, cond_false, s_trader (show (3 : Int) = 2 ∨ (3 : Int) = 3 by omega), s_nonce_no (show ¬ (3 : Int) = 1 by omega) (show ¬ (3 : Int) = 2 by omega), zip_self, s_late' (show ¬ (3 : Int) = 0 by omega), r_late (show ¬ (3 : Int) = 0 by omega)]
theorem pl3_6 (l : List (Int × Int × Int × (List Int) × Bool × Unit)) (idle k now nx sn : Int) (key : List Nat) (i : Nat) (hk : B32 key) (h1 : (i : Int) < (l.length : Int)) (h2 : (i : Int) < 30) (kind N Now : Int) (Sum : List Nat) (hs : B32 Sum) (right : Bool) (hx : l[i]? = some (kind, N, Now, ci Sum, right, ())) (er : jobberbook_Within ((Now, 0, 999, ()), ()) = some ((now, ()), ())) (ek : jobberbook_Within ((idle, 1, 500, ()), ()) = some ((k, ()), ())) (e1 : wr .i64 ((i : Int) + 1) = ((i + 1 : Nat) : Int)) (x0 : 0 ≤ nx) (x1 : nx ≤ (i : Int) + 1) (tr : Int) (hkind : kind = 6) : ∃ a' tr' nc' nx' sn', jobberlaw20_SessionPlays_l5 (PD l idle (ci key) (i : Int) 3 tr zz nx sn) = some (.inl (PD l idle (ci key) ((i + 1 : Nat) : Int) a' tr' nc' nx' sn')) ∧ Jo a' tr' nc' ∧ 0 ≤ nx' ∧ nx' ≤ ((i + 1 : Nat) : Int) + 1 := by
  subst hkind
  refine ⟨0, 0, zz, 0, 0, ?_, .inl ⟨rfl, rfl, rfl⟩, ⟨by omega, by omega⟩⟩
  simp only [jobberlaw20_SessionPlays_l5, PD, cond_true, cond_false, ot h1, ot h2, ot (show (0 : Int) ≤ (i : Int) by omega), Int.toNat_natCast, hx, Option.bind_some, er, ek, e1, d01, d02, d03, d04, d05, d06, d10, d12, d13, d14, d15, d16, d20, d21, d23, d24, d25, d26, d30, d31, d32, d34, d35, d36, d40, d41, d42, d43, d45, d46, d50, d51, d52, d53, d54, d56, d60, d61, d62, d63, d64, d65, s_close, beS, s_at, odT, Bool.not_true, cond_false, s_trader_no (show ¬ (0 : Int) = 2 by omega) (show ¬ (0 : Int) = 3 by omega), s_nonce_no (show ¬ (0 : Int) = 1 by omega) (show ¬ (0 : Int) = 2 by omega), zip_self, s_late_no, r_late_no]
theorem pl3_0 (l : List (Int × Int × Int × (List Int) × Bool × Unit)) (idle k now nx sn : Int) (key : List Nat) (i : Nat) (hk : B32 key) (h1 : (i : Int) < (l.length : Int)) (h2 : (i : Int) < 30) (kind N Now : Int) (Sum : List Nat) (hs : B32 Sum) (right : Bool) (hx : l[i]? = some (kind, N, Now, ci Sum, right, ())) (er : jobberbook_Within ((Now, 0, 999, ()), ()) = some ((now, ()), ())) (ek : jobberbook_Within ((idle, 1, 500, ()), ()) = some ((k, ()), ())) (e1 : wr .i64 ((i : Int) + 1) = ((i + 1 : Nat) : Int)) (x0 : 0 ≤ nx) (x1 : nx ≤ (i : Int) + 1) (tr : Int) (g1 : ¬ kind = 1) (g2 : ¬ kind = 2) (g3 : ¬ kind = 3) (g4 : ¬ kind = 4) (g5 : ¬ kind = 5) (g6 : ¬ kind = 6) : ∃ a' tr' nc' nx' sn', jobberlaw20_SessionPlays_l5 (PD l idle (ci key) (i : Int) 3 tr zz nx sn) = some (.inl (PD l idle (ci key) ((i + 1 : Nat) : Int) a' tr' nc' nx' sn')) ∧ Jo a' tr' nc' ∧ 0 ≤ nx' ∧ nx' ≤ ((i + 1 : Nat) : Int) + 1 := by
  refine ⟨3, tr, zz, nx, sn, ?_, .inr (.inr (.inr ⟨rfl, rfl⟩)), ⟨x0, by omega⟩⟩
  simp only [jobberlaw20_SessionPlays_l5, PD, cond_true, cond_false, ot h1, ot h2, ot (show (0 : Int) ≤ (i : Int) by omega), Int.toNat_natCast, hx, Option.bind_some, er, ek, e1, d01, d02, d03, d04, d05, d06, d10, d12, d13, d14, d15, d16, d20, d21, d23, d24, d25, d26, d30, d31, d32, d34, d35, d36, d40, d41, d42, d43, d45, d46, d50, d51, d52, d53, d54, d56, d60, d61, d62, d63, d64, d65, of_ g1, of_ g2, of_ g3, of_ g4, of_ g5, of_ g6, beS, s_at, odT, Bool.not_true, cond_false, s_trader (show (3 : Int) = 2 ∨ (3 : Int) = 3 by omega), s_nonce_no (show ¬ (3 : Int) = 1 by omega) (show ¬ (3 : Int) = 2 by omega), zip_self, s_late' (show ¬ (3 : Int) = 0 by omega), r_late (show ¬ (3 : Int) = 0 by omega)]
theorem plays_step (l : List (Int × Int × Int × (List Int) × Bool × Unit)) (idle k now nx sn : Int) (key : List Nat) (i : Nat) (hk : B32 key) (h1 : (i : Int) < (l.length : Int)) (h2 : (i : Int) < 30) (kind N Now : Int) (Sum : List Nat) (hs : B32 Sum) (right : Bool) (hx : l[i]? = some (kind, N, Now, ci Sum, right, ())) (er : jobberbook_Within ((Now, 0, 999, ()), ()) = some ((now, ()), ())) (ek : jobberbook_Within ((idle, 1, 500, ()), ()) = some ((k, ()), ())) (e1 : wr .i64 ((i : Int) + 1) = ((i + 1 : Nat) : Int)) (x0 : 0 ≤ nx) (x1 : nx ≤ (i : Int) + 1)
    (a tr : Int) (nc : List Int) (q : Int) (en : jobberbook_Within ((N, 0, 31, ()), ()) = some ((q, ()), ())) (hJ : Jo a tr nc) : ∃ a' tr' nc' nx' sn', jobberlaw20_SessionPlays_l5 (PD l idle (ci key) (i : Int) a tr nc nx sn) = some (.inl (PD l idle (ci key) ((i + 1 : Nat) : Int) a' tr' nc' nx' sn')) ∧ Jo a' tr' nc' ∧ 0 ≤ nx' ∧ nx' ≤ ((i + 1 : Nat) : Int) + 1 := by
  rcases hJ with ⟨rfl, rfl, rfl⟩ | ⟨n, hn, rfl, rfl, rfl⟩ | ⟨n, hn, rfl, rfl⟩ | ⟨rfl, rfl⟩
  · by_cases g1 : kind = 1
    · exact pl0_1 l idle k now nx sn key i hk h1 h2 kind N Now Sum hs right hx er ek e1 x0 x1 g1
    by_cases g2 : kind = 2
    · exact pl0_2 l idle k now nx sn key i hk h1 h2 kind N Now Sum hs right hx er ek e1 x0 x1 g2 q en
    by_cases g3 : kind = 3
    · cases hr : right
      · exact pl0_3f l idle k now nx sn key i hk h1 h2 kind N Now Sum hs right hx er ek e1 x0 x1 g3 hr
      · exact pl0_3t l idle k now nx sn key i hk h1 h2 kind N Now Sum hs right hx er ek e1 x0 x1 g3 hr
    by_cases g4 : kind = 4
    · exact pl0_4 l idle k now nx sn key i hk h1 h2 kind N Now Sum hs right hx er ek e1 x0 x1 g4
    by_cases g5 : kind = 5
    · exact pl0_5 l idle k now nx sn key i hk h1 h2 kind N Now Sum hs right hx er ek e1 x0 x1 g5
    by_cases g6 : kind = 6
    · exact pl0_6 l idle k now nx sn key i hk h1 h2 kind N Now Sum hs right hx er ek e1 x0 x1 g6
    exact pl0_0 l idle k now nx sn key i hk h1 h2 kind N Now Sum hs right hx er ek e1 x0 x1 g1 g2 g3 g4 g5 g6
  · by_cases g1 : kind = 1
    · exact pl1_1 l idle k now nx sn key i hk h1 h2 kind N Now Sum hs right hx er ek e1 x0 x1 n hn g1
    by_cases g2 : kind = 2
    · exact pl1_2 l idle k now nx sn key i hk h1 h2 kind N Now Sum hs right hx er ek e1 x0 x1 n hn g2 q en
    by_cases g3 : kind = 3
    · cases hr : right
      · exact pl1_3f l idle k now nx sn key i hk h1 h2 kind N Now Sum hs right hx er ek e1 x0 x1 n hn g3 hr
      · exact pl1_3t l idle k now nx sn key i hk h1 h2 kind N Now Sum hs right hx er ek e1 x0 x1 n hn g3 hr
    by_cases g4 : kind = 4
    · exact pl1_4 l idle k now nx sn key i hk h1 h2 kind N Now Sum hs right hx er ek e1 x0 x1 n hn g4
    by_cases g5 : kind = 5
    · exact pl1_5 l idle k now nx sn key i hk h1 h2 kind N Now Sum hs right hx er ek e1 x0 x1 n hn g5
    by_cases g6 : kind = 6
    · exact pl1_6 l idle k now nx sn key i hk h1 h2 kind N Now Sum hs right hx er ek e1 x0 x1 n hn g6
    exact pl1_0 l idle k now nx sn key i hk h1 h2 kind N Now Sum hs right hx er ek e1 x0 x1 n hn g1 g2 g3 g4 g5 g6
  · by_cases g1 : kind = 1
    · exact pl2_1 l idle k now nx sn key i hk h1 h2 kind N Now Sum hs right hx er ek e1 x0 x1 n hn tr g1
    by_cases g2 : kind = 2
    · exact pl2_2 l idle k now nx sn key i hk h1 h2 kind N Now Sum hs right hx er ek e1 x0 x1 n hn tr g2 q en
    by_cases g3 : kind = 3
    · cases hr : right
      · by_cases hq : Sum = macN key n
        · exact pl2_3e l idle k now nx sn key i hk h1 h2 kind N Now Sum hs right hx er ek e1 x0 x1 n hn tr g3 hr hq
        · exact pl2_3n l idle k now nx sn key i hk h1 h2 kind N Now Sum hs right hx er ek e1 x0 x1 n hn tr g3 hr hq
      · exact pl2_3r l idle k now nx sn key i hk h1 h2 kind N Now Sum hs right hx er ek e1 x0 x1 n hn tr g3 hr
    by_cases g4 : kind = 4
    · exact pl2_4 l idle k now nx sn key i hk h1 h2 kind N Now Sum hs right hx er ek e1 x0 x1 n hn tr g4
    by_cases g5 : kind = 5
    · exact pl2_5 l idle k now nx sn key i hk h1 h2 kind N Now Sum hs right hx er ek e1 x0 x1 n hn tr g5
    by_cases g6 : kind = 6
    · exact pl2_6 l idle k now nx sn key i hk h1 h2 kind N Now Sum hs right hx er ek e1 x0 x1 n hn tr g6
    exact pl2_0 l idle k now nx sn key i hk h1 h2 kind N Now Sum hs right hx er ek e1 x0 x1 n hn tr g1 g2 g3 g4 g5 g6
  · by_cases g1 : kind = 1
    · exact pl3_1 l idle k now nx sn key i hk h1 h2 kind N Now Sum hs right hx er ek e1 x0 x1 tr g1
    by_cases g2 : kind = 2
    · exact pl3_2 l idle k now nx sn key i hk h1 h2 kind N Now Sum hs right hx er ek e1 x0 x1 tr g2 q en
    by_cases g3 : kind = 3
    · cases hr : right
      · exact pl3_3f l idle k now nx sn key i hk h1 h2 kind N Now Sum hs right hx er ek e1 x0 x1 tr g3 hr
      · exact pl3_3t l idle k now nx sn key i hk h1 h2 kind N Now Sum hs right hx er ek e1 x0 x1 tr g3 hr
    by_cases g4 : kind = 4
    · by_cases hq : nx = N
      · exact pl3_4e l idle k now nx sn key i hk h1 h2 kind N Now Sum hs right hx er ek e1 x0 x1 tr g4 hq
      · exact pl3_4n l idle k now nx sn key i hk h1 h2 kind N Now Sum hs right hx er ek e1 x0 x1 tr g4 (fun e => hq e.symm)
    by_cases g5 : kind = 5
    · exact pl3_5 l idle k now nx sn key i hk h1 h2 kind N Now Sum hs right hx er ek e1 x0 x1 tr g5
    by_cases g6 : kind = 6
    · exact pl3_6 l idle k now nx sn key i hk h1 h2 kind N Now Sum hs right hx er ek e1 x0 x1 tr g6
    exact pl3_0 l idle k now nx sn key i hk h1 h2 kind N Now Sum hs right hx er ek e1 x0 x1 tr g1 g2 g3 g4 g5 g6
abbrev tAsk20 : Ty := .cons (.int .i64) (.cons (.int .i64) (.cons (.int .i64) (.cons (.arr 32 (.int .u8)) (.cons .bool .nil))))
theorem plays_loop (l : List (Int × Int × Int × (List Int) × Bool × Unit)) (hl : ∀ x ∈ l, Rng tAsk20 x) (idle : Int) (hi : Rng (.int .i64) idle) (key : List Nat) (hk : B32 key) : ∃ s : SV, loopFix jobberlaw20_SessionPlays_l5 (PD l idle (ci key) 0 0 0 zz 0 0) = some (.inr ((), (ci key, s, ()))) := by
  obtain ⟨k, k0, k1, ek⟩ := within20 hi (lo := 1) (hi := 500) (by omega) (by omega) (by omega)
  have key' := loop_ind (b := jobberlaw20_SessionPlays_l5) (fun d => ∃ (i : Nat) (a tr : Int) (nc : List Int) (nx sn : Int), d = PD l idle (ci key) (i : Int) a tr nc nx sn ∧ i ≤ l.length ∧ i ≤ 30 ∧ Jo a tr nc ∧ 0 ≤ nx ∧ nx ≤ (i : Int) + 1) (fun r => ∃ s : SV, r = .inr ((), (ci key, s, ()))) (fun d => l.length - d.1.2.2.2.2.2.1.toNat) (by
    rintro d ⟨i, a, tr, nc, nx, sn, rfl, hi', h30, hJ, x0, x1⟩
    by_cases h1 : i < l.length
    · by_cases h2 : i < 30
      · right
        have e1 : wr .i64 ((i : Int) + 1) = ((i + 1 : Nat) : Int) := by rw [wr64 (by omega) (by omega)]; omega
        have hx := List.getElem?_eq_getElem h1
        have hr := hl _ (List.getElem_mem h1)
        generalize l[i] = x at hx hr
        obtain ⟨kind, N, Now, S, right, u⟩ := x
        cases u
        obtain ⟨S', rfl, hS⟩ := rng_b32 (l := S) hr.2.2.2.1
        obtain ⟨now, n0, n1, er⟩ := within20 (v := Now) hr.2.2.1 (lo := 0) (hi := 999) (by omega) (by omega) (by omega)
        obtain ⟨q, q0, q1, en⟩ := within20 (v := N) hr.2.1 (lo := 0) (hi := 31) (by omega) (by omega) (by omega)
        obtain ⟨a', tr', nc', nx', sn', g1, g2, g3, g4⟩ := plays_step l idle k now nx sn key i hk (by omega) (by omega) kind N Now S' hS right hx er ek e1 x0 x1 a tr nc q en hJ
        exact ⟨_, g1, ⟨i + 1, a', tr', nc', nx', sn', rfl, by omega, by omega, g2, g3, g4⟩, by simp only [PD]; omega⟩
      · left
        exact ⟨_, by simp only [jobberlaw20_SessionPlays_l5, PD, ot (show (i : Int) < (l.length : Int) by omega), of_ (show ¬ (i : Int) < 30 by omega), cond_true, cond_false], (a, tr, nc, nx, sn, ()), rfl⟩
    · left
      exact ⟨_, by simp only [jobberlaw20_SessionPlays_l5, PD, of_ (show ¬ (i : Int) < (l.length : Int) by omega), cond_false], (a, tr, nc, nx, sn, ()), rfl⟩)
  obtain ⟨r, hr, s, rfl⟩ := key' (PD l idle (ci key) 0 0 0 zz 0 0) ⟨0, 0, 0, zz, 0, 0, rfl, by omega, by omega, .inl ⟨rfl, rfl, rfl⟩, by omega, by omega⟩
  exact ⟨s, hr⟩
theorem jobberlaw20_SessionPlays.law (key : List Int) (l : List (Int × Int × Int × (List Int) × Bool × Unit)) (idle : Int) (h0 : Rng (.arr 32 (.int .u8)) key) (h1 : Rng (.deep tAsk20) l) (h2 : Rng (.int .i64) idle) : jobberlaw20_SessionPlays ((key, l, idle, ()), ()) = some ((true, ()), ()) := by
  obtain ⟨key, rfl, hk⟩ := rng_b32 h0
  obtain ⟨s, hl⟩ := plays_loop l (fun x hx => h1.2 x hx) idle h2 key hk
  simp only [PD] at hl
  simp only [jobberlaw20_SessionPlays, s_new, Option.bind_some, hl, jobberlaw20_SessionRuns.law]
end AM
