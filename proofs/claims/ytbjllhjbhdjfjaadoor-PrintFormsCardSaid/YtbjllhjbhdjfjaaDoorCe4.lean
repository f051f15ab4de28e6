/- dec: Show. -/
import Derived.Test.YtbjllhjbhdjfjaaDoorCe2
namespace Go.Dn.Dec
open Go.Proofs
set_option exponentiation.threshold 5000000
def ratN (b : Nat) : Nat × Nat :=
  let q := if b / 2 ^ 52 = 0 then b % 2 ^ 52 else b % 2 ^ 52 + 2 ^ 52
  let e : Int := if b / 2 ^ 52 = 0 then -1074 else -1074 + ((b / 2 ^ 52 : Nat) - 1)
  if e < 0 then (q, 2 ^ (-e).toNat) else (q * 2 ^ e.toNat, 1)
def belowN (x y : Nat) (n : Int) : Bool := if n < 0 then decide (x * 10 ^ (-n).toNat < y) else decide (x < y * 10 ^ n.toNat)
def scaledN (x y : Nat) (n : Int) : Nat := if n < 0 then nearN (x * 10 ^ (-n).toNat) y else nearN x (y * 10 ^ n.toNat)
def downN (x y : Nat) : Nat → Int
  | 0 => -400
  | k + 1 => if belowN x y ((k + 1 : Nat) - 400 : Int) = true then downN x y k else ((k + 1 : Nat) - 400 : Int)
def tensN (q : Nat) : List UInt8 := decN (q % 18446744073709551616)
def restN (d : List UInt8) : List UInt8 := if trimRightB 48 (d.drop 1) = [] then [48] else trimRightB 48 (d.drop 1)
def putN (out d : List UInt8) (n : Int) : List UInt8 := out ++ d.take 1 ++ [46] ++ restN d ++ [101] ++ decI n
def showN (out : List UInt8) (x y : Nat) : List UInt8 :=
  let n := downN x y ((((blen x : Int) - blen y) * 30103).tdiv 100000 + 401).toNat
  if 17 < (tensN (scaledN x y (n - 16))).length then putN out (tensN (scaledN x y (n + 1 - 16))) (n + 1) else putN out (tensN (scaledN x y (n - 16))) n
def showB (b : Nat) : List UInt8 :=
  if b / 2 ^ 52 % 2048 = 2047 then []
  else
    let out : List UInt8 := if 2 ^ 63 ≤ b then [45] else []
    if b % 2 ^ 63 = 0 then out ++ [48, 46, 48, 101, 48] else showN out (ratN (b % 2 ^ 63)).1 (ratN (b % 2 ^ 63)).2
theorem decN_ne (n : Nat) : decN n ≠ [] := by
  rw [decN_eq]; split <;> simp
theorem decN_len : ∀ (k n : Nat), 0 < k → n < 10 ^ k → (decN n).length ≤ k
  | 0, _, h, _ => by omega
  | k + 1, n, _, h => by
    rw [decN_eq]
    split
    · simp
    · rename_i h9
      rw [List.length_append, List.length_singleton]
      have hk : 0 < k := by
        rcases Nat.eq_zero_or_pos k with rfl | h'
        · simp at h; omega
        · exact h'
      have := decN_len k (n / 10) hk (by rw [Nat.pow_succ] at h; omega)
      omega
theorem decI_len {n : Int} (h1 : -1000000 < n) (h2 : n < 1000000) : (decI n).length ≤ 8 := by
  unfold decI
  split
  · have := decN_len 7 n.natAbs (by decide) (by simp; omega)
    simp; omega
  · have := decN_len 7 n.toNat (by decide) (by simp; omega)
    omega
theorem trimR_len (c : UInt8) (x : List UInt8) : (trimRightB c x).length ≤ x.length := by
  unfold trimRightB
  rw [List.length_reverse]
  have := (List.dropWhile_sublist (· == c) (l := x.reverse)).length_le
  simpa using this
/-- Numbers that a power of ten may be put to. -/
def Sml (n : Nat) : Prop := n < 2 ^ 1100
theorem Sml.mul {n k : Nat} (h : Sml n) (hk : k ≤ 700) : Mid (n * 10 ^ k) := by
  have h1 : (10 : Nat) ^ k ≤ 16 ^ k := Nat.pow_le_pow_left (by decide) k
  have h2 : (16 : Nat) ^ k = 2 ^ (4 * k) := by rw [show (16 : Nat) = 2 ^ 4 from rfl, ← Nat.pow_mul]
  have h3 : n * 10 ^ k < 2 ^ 1100 * 2 ^ (4 * k) := by
    have : n * 10 ^ k ≤ n * 2 ^ (4 * k) := Nat.mul_le_mul_left _ (h2 ▸ h1)
    exact Nat.lt_of_le_of_lt this (Nat.mul_lt_mul_of_pos_right h (Nat.pow_pos (by decide)))
  rw [← Nat.pow_add] at h3
  exact mid_lt (Nat.lt_of_lt_of_le h3 (Nat.pow_le_pow_right (by decide) (by omega)))
theorem Sml.mid {n : Nat} (h : Sml n) : Mid n := mid_lt (Nat.lt_of_lt_of_le h (Nat.pow_le_pow_right (by decide) (by decide)))
theorem cmpN_neg (x y : Nat) : decide (cmpN x y < 0) = decide (x < y) := by
  unfold cmpN
  by_cases h : x < y
  · simp [h]
  · by_cases h2 : y < x <;> simp [h, h2]
theorem below_ws (b c : Bool) (x y : Nat) (hx : Sml x) (hy : Sml y) (n : Int) (h1 : -700 ≤ n) (h2 : n ≤ 700) :
    rk Tryd.prog pol (Task.call 34 [V.d (D.l b (ws x)), V.d (D.l c (ws y)), V.d (D.i .i64 n)] []) = some (.d (.b (belowN x y n)), []) := by
  rw [f35]
  unfold belowN
  by_cases h : n < 0
  · have hw : IntKind.i64.wrap (0 - n) = ((-n).toNat : Int) := by rw [wrap_i64] <;> omega
    have ht := ten_ws (-n).toNat (by omega)
    have hm := mul_ws b (nb (10 ^ (-n).toNat)) x (10 ^ (-n).toNat) hx.mid.fits (mid_lt (pow10_lt (by omega))).fits
    have hc := cmp_ws (nb (x * 10 ^ (-n).toNat)) c (x * 10 ^ (-n).toNat) y (hx.mul (by omega)).fits hy.mid.fits
    simp only [interp_brB, decide_eq_true h, if_true, hw, interp_call', ht, hm, hc, Option.bind_some, List.isEmpty_nil, interp_ift', asD_d, asL_l, interp_asI, interp_ret, cmpN_neg, if_pos h]
  · have hw : n = (n.toNat : Int) := by omega
    have ht := ten_ws n.toNat (by omega)
    rw [← hw] at ht
    have hm := mul_ws c (nb (10 ^ n.toNat)) y (10 ^ n.toNat) hy.mid.fits (mid_lt (pow10_lt (by omega))).fits
    have hc := cmp_ws b (nb (y * 10 ^ n.toNat)) x (y * 10 ^ n.toNat) hx.mid.fits (hy.mul (by omega)).fits
    simp only [interp_brB, decide_eq_false h, Bool.false_eq_true, if_false, interp_call', ht, hm, hc, Option.bind_some, List.isEmpty_nil, interp_ift', if_true, asD_d, asL_l, interp_asI, interp_ret, cmpN_neg, if_neg h]
theorem scaled_ws (b c : Bool) (x y : Nat) (hx : Sml x) (hy : Sml y) (hy0 : 0 < y) (n : Int) (h1 : -700 ≤ n) (h2 : n ≤ 700) :
    rk Tryd.prog pol (Task.call 36 [V.d (D.l b (ws x)), V.d (D.l c (ws y)), V.d (D.i .i64 n)] []) = some (.d (.l (nb (scaledN x y n)) (ws (scaledN x y n))), []) := by
  rw [f37]
  unfold scaledN
  by_cases h : n < 0
  · have hw : IntKind.i64.wrap (0 - n) = ((-n).toNat : Int) := by rw [wrap_i64] <;> omega
    have ht := ten_ws (-n).toNat (by omega)
    have hm := mul_ws b (nb (10 ^ (-n).toNat)) x (10 ^ (-n).toNat) hx.mid.fits (mid_lt (pow10_lt (by omega))).fits
    have hxm := hx.mul (k := (-n).toNat) (by omega)
    have hc := near_ws (nb (x * 10 ^ (-n).toNat)) c (x * 10 ^ (-n).toNat) y hxm.fits hxm.fits1 hy.mid.fits2 hy0
    simp only [interp_brB, decide_eq_true h, if_true, hw, interp_call', ht, hm, hc, Option.bind_some, List.isEmpty_nil, interp_ift', asD_d, asL_l, interp_ret, if_pos h]
  · have hw : n = (n.toNat : Int) := by omega
    have ht := ten_ws n.toNat (by omega)
    rw [← hw] at ht
    have hm := mul_ws c (nb (10 ^ n.toNat)) y (10 ^ n.toNat) hy.mid.fits (mid_lt (pow10_lt (by omega))).fits
    have hc := near_ws b (nb (y * 10 ^ n.toNat)) x (y * 10 ^ n.toNat) hx.mid.fits hx.mid.fits1 (hy.mul (k := n.toNat) (by omega)).fits2 (Nat.mul_pos hy0 (Nat.pow_pos (by decide)))
    simp only [interp_brB, decide_eq_false h, Bool.false_eq_true, if_false, interp_call', ht, hm, hc, Option.bind_some, List.isEmpty_nil, interp_ift', if_true, asD_d, asL_l, interp_ret, if_neg h]
theorem scaledN_fits (x y : Nat) (hx : Sml x) (hy0 : 0 < y) (n : Int) (h1 : -700 ≤ n) : Fits (scaledN x y n) := by
  have key : ∀ p q, 0 < q → Mid p → Fits (nearN p q) := by
    intro p q hq hp
    refine hp.fits1.le (nearN_le hq ?_)
    rw [Nat.add_mul]
    exact Nat.le_trans (Nat.le_mul_of_pos_right _ hq) (Nat.le_add_right _ _)
  unfold scaledN
  split
  · exact key _ _ hy0 (hx.mul (by omega))
  · exact key _ _ (Nat.mul_pos hy0 (Nat.pow_pos (by decide))) hx.mid
theorem fmt_call (m : Nat) (hm : m < 18446744073709551616) : fmtUintExt [V.d (D.i .u64 (m : Int)), V.d (D.i .i64 10)] [] = some (.d (.s (decN m)), []) := by
  have h0 : (m : Int) < 18446744073709551616 := by omega
  simp [fmtUintExt, h0]
theorem tens_ws (b : Bool) (x : Nat) (hx : Fits x) : rk Tryd.prog pol (Task.call 35 [V.d (D.l b (ws x))] []) = some (.d (.s (tensN x)), []) := by
  rw [f36]
  have h1 := low_ws b x hx
  have h2 : rk Tryd.prog pol (Task.call 69 [V.d (D.i .u64 ((x % 18446744073709551616 : Nat) : Int)), V.d (D.i .i64 10)] []) = some (.d (.s (tensN x)), []) := by
    rw [ext_call (g := fmtUintExt) rfl]
    exact fmt_call _ (Nat.mod_lt _ (by decide))
  simp only [interp_call', h1, h2, Option.bind_some, List.isEmpty_nil, interp_ift', if_true, asD_d, asS_s, interp_asI, interp_ret]
theorem and_mod {b k : Nat} (hb : b < 18446744073709551616) (c : Int) (hc : (BitVec.ofInt 64 c).toNat = 2 ^ k - 1) : (BitVec.ofInt 64 (b : Int) &&& BitVec.ofInt 64 c).toNat = b % 2 ^ k := by
  rw [BitVec.toNat_and, hc, Nat.and_two_pow_sub_one_eq_mod, BitVec.ofInt_natCast, BitVec.toNat_ofNat, Nat.mod_eq_of_lt (show b < 2 ^ 64 from hb)]
theorem ratio_ws (b : Nat) (hb : b < 2 ^ 63) (hk : b / 2 ^ 52 < 2047) : rk Tryd.prog pol (Task.call 32 [V.d (D.i .u64 (b : Int))] []) = some (.t [.d (.l (nb (ratN b).1) (ws (ratN b).1)), .d (.l (nb (ratN b).2) (ws (ratN b).2))], []) := by
  have h1 : (b : Int).fdiv 4503599627370496 = ((b / 2 ^ 52 : Nat) : Int) := fdiv_nat b 4503599627370496
  have h2 : (BitVec.ofInt IntKind.u64.bits ((b / 2 ^ 52 : Nat) : Int) &&& BitVec.ofInt IntKind.u64.bits 2047).toNat = b / 2 ^ 52 := by
    have := and_mod (b := b / 2 ^ 52) (k := 11) (by omega) 2047 (by decide)
    rw [Nat.mod_eq_of_lt (by omega)] at this
    exact this
  have h3 : (BitVec.ofInt IntKind.u64.bits (b : Int) &&& BitVec.ofInt IntKind.u64.bits 4503599627370495).toNat = b % 2 ^ 52 := and_mod (b := b) (k := 52) (by omega) 4503599627370495 (by decide)
  have hm : b % 2 ^ 52 < 2 ^ 52 := Nat.mod_lt _ (by decide)
  have w1 : IntKind.u64.wrap ((b / 2 ^ 52 : Nat) : Int) = ((b / 2 ^ 52 : Nat) : Int) := by rw [u64_wrap]; omega
  have w2 : IntKind.i64.wrap ((b / 2 ^ 52 : Nat) : Int) = ((b / 2 ^ 52 : Nat) : Int) := by rw [wrap_i64] <;> omega
  have w3 : IntKind.u64.wrap ((b % 2 ^ 52 : Nat) : Int) = ((b % 2 ^ 52 : Nat) : Int) := by rw [u64_wrap]; omega
  have w4 : (BitVec.ofInt IntKind.u64.bits ((b % 2 ^ 52 : Nat) : Int) ||| BitVec.ofInt IntKind.u64.bits 4503599627370496).toNat = b % 2 ^ 52 + 2 ^ 52 := by
    have := or_nat (a := b % 2 ^ 52) (b := 4503599627370496) (by omega) (by decide)
    have e := or_add (c := b % 2 ^ 52) (a := 1) (k := 52) hm
    rw [Nat.one_mul] at e
    exact Eq.trans this e
  have w5 : IntKind.u64.wrap ((b % 2 ^ 52 + 2 ^ 52 : Nat) : Int) = ((b % 2 ^ 52 + 2 ^ 52 : Nat) : Int) := by rw [u64_wrap]; omega
  have w6 : IntKind.i64.wrap (((b / 2 ^ 52 : Nat) : Int) - 1) = ((b / 2 ^ 52 : Nat) : Int) - 1 := by rw [wrap_i64] <;> omega
  have w7 : IntKind.i64.wrap (-1074 + (((b / 2 ^ 52 : Nat) : Int) - 1)) = -1074 + (((b / 2 ^ 52 : Nat) : Int) - 1) := by rw [wrap_i64] <;> omega
  have main : ∀ (q : Nat) (e : Int), q < 2 ^ 53 → -1074 ≤ e → e ≤ 971 → rk Tryd.prog pol (Task.at_ 32 0 [true, true, true] (sv 34 [(4, V.d (D.i IntKind.u64 (q : Int))), (5, V.d (D.i IntKind.i64 e))]) [] []) =
      some (.t [.d (.l (nb (if e < 0 then (q, 2 ^ (-e).toNat) else (q * 2 ^ e.toNat, 1)).1) (ws (if e < 0 then (q, 2 ^ (-e).toNat) else (q * 2 ^ e.toNat, 1)).1)), .d (.l (nb (if e < 0 then (q, 2 ^ (-e).toNat) else (q * 2 ^ e.toNat, 1)).2) (ws (if e < 0 then (q, 2 ^ (-e).toNat) else (q * 2 ^ e.toNat, 1)).2))], []) := by
    intro q e hq he1 he2
    rw [f33_at15]
    have hof := of_ws q (by omega)
    by_cases he : e < 0
    · have hw0 : IntKind.i64.wrap (0 - e) = ((-e).toNat : Int) := by rw [wrap_i64] <;> omega
      have hs := shl_ws (nb 1) 1 (-e).toNat fits_one (by omega)
      rw [Nat.one_mul] at hs
      simp only [interp_brB, decide_eq_true he, if_true, hw0, interp_call', hof, of_one, hs, Option.bind_some, List.isEmpty_nil, interp_ift', asD_d, asL_l, interp_ret, if_pos he]
    · have hw0 : e = (e.toNat : Int) := by omega
      have hs := shl_ws (nb q) q e.toNat (mid_u64 (by omega)).fits (by omega)
      rw [← hw0] at hs
      simp only [interp_brB, decide_eq_false he, Bool.false_eq_true, if_false, interp_call', hof, of_one, hs, Option.bind_some, List.isEmpty_nil, interp_ift', if_true, asD_d, asL_l, interp_ret, if_neg he]
  rw [f33, h1, h2, h3, w1, w2, w3, w4, w5, w6, w7]
  unfold ratN
  by_cases h0 : b / 2 ^ 52 = 0
  · have : ¬ ((b / 2 ^ 52 : Nat) : Int) > 0 := by omega
    have hmn := main (b % 2 ^ 52) (-1074) (by omega) (by decide) (by decide)
    rw [interp_brB, decide_eq_false this, if_neg (by decide), interp_call_ret, hmn]
    simp only [if_pos h0]
  · have : ((b / 2 ^ 52 : Nat) : Int) > 0 := by omega
    have hmn := main (b % 2 ^ 52 + 2 ^ 52) (-1074 + (((b / 2 ^ 52 : Nat) : Int) - 1)) (by omega) (by omega) (by omega)
    rw [interp_brB, decide_eq_true this, if_pos rfl, interp_call_ret, hmn]
    simp only [if_neg h0]
theorem ratN_sml (b : Nat) (hb : b < 2 ^ 63) (hk : b / 2 ^ 52 < 2047) : Sml (ratN b).1 ∧ Sml (ratN b).2 ∧ 0 < (ratN b).2 := by
  have hm : b % 2 ^ 52 < 2 ^ 52 := Nat.mod_lt _ (by decide)
  have main : ∀ (q : Nat) (e : Int), q < 2 ^ 53 → -1074 ≤ e → e ≤ 971 → Sml (if e < 0 then (q, 2 ^ (-e).toNat) else (q * 2 ^ e.toNat, 1)).1 ∧ Sml (if e < 0 then (q, 2 ^ (-e).toNat) else (q * 2 ^ e.toNat, 1)).2 ∧ 0 < (if e < 0 then (q, 2 ^ (-e).toNat) else (q * 2 ^ e.toNat, 1)).2 := by
    intro q e hq he1 he2
    split
    · exact ⟨Nat.lt_of_lt_of_le hq (Nat.pow_le_pow_right (by decide) (by decide)), Nat.pow_lt_pow_right (by decide) (by omega), Nat.pow_pos (by decide)⟩
    · refine ⟨?_, Nat.one_lt_two_pow (by decide), Nat.one_pos⟩
      have : q * 2 ^ e.toNat < 2 ^ 53 * 2 ^ e.toNat := Nat.mul_lt_mul_of_pos_right hq (Nat.pow_pos (by decide))
      rw [← Nat.pow_add] at this
      exact Nat.lt_of_lt_of_le this (Nat.pow_le_pow_right (by decide) (by omega))
  unfold ratN
  by_cases h0 : b / 2 ^ 52 = 0
  · simp only [if_pos h0]
    exact main _ _ (by omega) (by decide) (by decide)
  · simp only [if_neg h0]
    exact main _ _ (by omega) (by omega) (by omega)
/-- What is told of a number, when its power of ten is found. -/
def tellN (out : List UInt8) (x y : Nat) (n : Int) : List UInt8 :=
  if 17 < (tensN (scaledN x y (n - 16))).length then putN out (tensN (scaledN x y (n + 1 - 16))) (n + 1) else putN out (tensN (scaledN x y (n - 16))) n
theorem tens_len (q : Nat) : (tensN q).length ≤ 20 ∧ 1 ≤ (tensN q).length := by
  have h1 := decN_len 20 (q % 18446744073709551616) (by decide) (Nat.lt_trans (Nat.mod_lt _ (by decide)) (by decide))
  have h2 : tensN q ≠ [] := decN_ne _
  exact ⟨h1, by cases h : tensN q with
    | nil => exact absurd h h2
    | cons c r => simp⟩
theorem put_run (out d : List UInt8) (n : Int) (ho : out.length ≤ 1000) (hd : d.length ≤ 20 ∧ 1 ≤ d.length) (h1 : -1000000 < n) (h2 : n < 1000000) :
    rk Tryd.prog pol (Task.at_ 17 0 [true, true, true, true, true, true, true, true, true, true] (sv 76 [(3, V.d (D.s out)), (6, V.d (D.i IntKind.i64 n)), (7, V.d (D.s d))]) [] []) = some (.d (.s (putN out d n)), []) := by
  rw [f15_at2047]
  have hle : ((0 : Int) ≤ 1 ∧ (1 : Int) ≤ ((d.length : Nat) : Int)) := ⟨by decide, by omega⟩
  have e : List.take (d.length - 1) (List.drop 1 d) = d.drop 1 := by
    rw [List.take_of_length_le]; simp
  have ht : rk Tryd.prog pol (Task.call 37 [V.d (D.s (d.drop 1)), V.d (D.s [48])] []) = some (.d (.s (trimRightB 48 (d.drop 1))), []) := by
    rw [ext_call (g := trimRightExt) rfl]
    have hh : (48 : UInt8).toNat < 128 ∧ (d.drop 1).length ≤ 1000000 := ⟨by decide, by rw [List.length_drop]; omega⟩
    simp only [trimRightExt, if_pos hh]
  have hit : rk Tryd.prog pol (Task.call 38 [V.d (D.i .i64 n)] []) = some (.d (.s (decI n)), []) := by
    rw [ext_call (g := itoaExt) rfl]
    have hh : -1000000 < n ∧ n < 1000000 := ⟨h1, h2⟩
    simp only [itoaExt, if_pos hh]
  have hdi := decI_len h1 h2
  have htr := trimR_len 48 (d.drop 1)
  rw [List.length_drop] at htr
  have hfin : ∀ r : List UInt8, r.length ≤ 20 → rk Tryd.prog pol (Task.at_ 17 0 [true, true, true, true, true, true, true, true, true, true, true, true] (sv 76 [(3, V.d (D.s out)), (6, V.d (D.i IntKind.i64 n)), (7, V.d (D.s d)), (8, V.d (D.s r))]) [] []) = some (.d (.s (out ++ d.take 1 ++ [46] ++ r ++ [101] ++ decI n)), []) := by
    intro r hr
    rw [f15_at8191]
    have l1 : out.length + (List.take 1 d).length < 4611686018427387904 := by simp; omega
    have l2 : (out ++ List.take 1 d).length + 1 < 4611686018427387904 := by simp; omega
    have l3 : (out ++ List.take 1 d ++ [46]).length + r.length < 4611686018427387904 := by simp; omega
    have l4 : (out ++ List.take 1 d ++ [46] ++ r).length + 1 < 4611686018427387904 := by simp; omega
    have l5 : (out ++ List.take 1 d ++ [46] ++ r ++ [101]).length + (decI n).length < 4611686018427387904 := by simp; omega
    simp only [interp_ift', decide_eq_true hle, if_true, decide_eq_true l1, decide_eq_true l2, decide_eq_true l3, decide_eq_true l4, decide_eq_true l5, interp_call', hit, Option.bind_some, List.isEmpty_nil, asD_d, asS_s, interp_ret, List.drop_zero]
  simp only [interp_ift', decide_eq_true hle, if_true, e, interp_call', ht, Option.bind_some, List.isEmpty_nil, asD_d, asS_s, interp_brB, beq_nil]
  unfold putN restN
  by_cases h0 : trimRightB 48 (d.drop 1) = []
  · simp only [h0, decide_true, if_true, hfin [48] (by decide), Option.bind_some, interp_ret]
  · simp only [h0, decide_false, Bool.false_eq_true, if_false, hfin _ (show (trimRightB 48 (d.drop 1)).length ≤ 20 by omega), Option.bind_some, interp_ret]
theorem show_loop (out : List UInt8) (x y : Nat) (hx : Sml x) (hy : Sml y) (hy0 : 0 < y) (ho : out.length ≤ 1000) (b c : Bool) (hlow : belowN x y (-400) = false) : ∀ k : Nat, k ≤ 800 →
    rk Tryd.prog pol (Task.at_ 17 0 [false, false, true, true, true, true, true, true, true] (sv 76 [(3, V.d (D.s out)), (4, V.d (D.l b (ws x))), (5, V.d (D.l c (ws y))), (6, V.d (D.i .i64 ((k : Int) - 400)))]) [] []) = some (.d (.s (tellN out x y (downN x y k))), []) := by
  have fin : ∀ n : Int, -400 ≤ n → n ≤ 400 → belowN x y n = false → rk Tryd.prog pol (Task.at_ 17 0 [false, false, true, true, true, true, true, true, true] (sv 76 [(3, V.d (D.s out)), (4, V.d (D.l b (ws x))), (5, V.d (D.l c (ws y))), (6, V.d (D.i .i64 n))]) [] []) = some (.d (.s (tellN out x y n)), []) := by
    intro n h1 h2 hb
    rw [f15_at639]
    have hbl := below_ws b c x y hx hy n (by omega) (by omega)
    rw [hb] at hbl
    have w1 : IntKind.i64.wrap (n - 17) = n - 17 := by rw [wrap_i64] <;> omega
    have w2 : IntKind.i64.wrap (n - 17 + 1) = n - 16 := by rw [wrap_i64] <;> omega
    have w3 : IntKind.i64.wrap (n + 1) = n + 1 := by rw [wrap_i64] <;> omega
    have w4 : IntKind.i64.wrap (n + 1 - 17) = n + 1 - 17 := by rw [wrap_i64] <;> omega
    have w5 : IntKind.i64.wrap (n + 1 - 17 + 1) = n + 1 - 16 := by rw [wrap_i64] <;> omega
    have s1 := scaled_ws b c x y hx hy hy0 (n - 16) (by omega) (by omega)
    have s2 := scaled_ws b c x y hx hy hy0 (n + 1 - 16) (by omega) (by omega)
    have t1 := tens_ws (nb (scaledN x y (n - 16))) (scaledN x y (n - 16)) (scaledN_fits x y hx hy0 _ (by omega))
    have t2 := tens_ws (nb (scaledN x y (n + 1 - 16))) (scaledN x y (n + 1 - 16)) (scaledN_fits x y hx hy0 _ (by omega))
    have p1 := put_run out (tensN (scaledN x y (n - 16))) n ho (tens_len _) (by omega) (by omega)
    have p2 := put_run out (tensN (scaledN x y (n + 1 - 16))) (n + 1) ho (tens_len _) (by omega) (by omega)
    unfold tellN
    simp only [interp_call', hbl, Option.bind_some, List.isEmpty_nil, interp_ift', if_true, asD_d, asB_b, interp_brB, Bool.false_eq_true, if_false, w1, w2, w3, w4, w5, s1, s2, t1, t2, asL_l, asS_s, p1, p2, interp_ret]
    by_cases h17 : 17 < (tensN (scaledN x y (n - 16))).length
    · have : ((tensN (scaledN x y (n - 16))).length : Int) > 17 := by omega
      simp only [decide_eq_true this, if_true, if_pos h17]
    · have : ¬ ((tensN (scaledN x y (n - 16))).length : Int) > 17 := by omega
      simp only [decide_eq_false this, Bool.false_eq_true, if_false, if_neg h17]
  intro k
  induction k with
  | zero =>
    intro _
    exact fin (-400) (by decide) (by decide) hlow
  | succ k ih =>
    intro hk
    have e : (((k + 1 : Nat) : Int) - 400) - 1 = (k : Int) - 400 := by omega
    cases hb : belowN x y (((k + 1 : Nat) : Int) - 400) with
    | false =>
      rw [fin _ (by omega) (by omega) hb]
      rw [downN, hb, if_neg (by decide)]
    | true =>
      rw [f15_at639]
      have hbl := below_ws b c x y hx hy (((k + 1 : Nat) : Int) - 400) (by omega) (by omega)
      rw [hb] at hbl
      have w1 : IntKind.i64.wrap ((((k + 1 : Nat) : Int) - 400) - 1) = (k : Int) - 400 := by rw [wrap_i64] <;> omega
      simp only [interp_call', hbl, Option.bind_some, List.isEmpty_nil, interp_ift', if_true, asD_d, asB_b, interp_brB, w1, ih (by omega), interp_ret]
      rw [downN, hb, if_pos rfl]
end Go.Dn.Dec
namespace Go.Dn.Dec
open Go.Proofs
set_option exponentiation.threshold 5000000
theorem and_mod' {b k : Nat} (hb : b < 18446744073709551616) (v : BitVec 64) (hc : v.toNat = 2 ^ k - 1) : (BitVec.ofInt 64 (b : Int) &&& v).toNat = b % 2 ^ k := by
  rw [BitVec.toNat_and, hc, Nat.and_two_pow_sub_one_eq_mod, BitVec.ofInt_natCast, BitVec.toNat_ofNat, Nat.mod_eq_of_lt (show b < 2 ^ 64 from hb)]
theorem and_top {b : Nat} (hb : b < 18446744073709551616) : (BitVec.ofInt IntKind.u64.bits (b : Int) &&& BitVec.ofInt IntKind.u64.bits 9223372036854775808).toNat = if 2 ^ 63 ≤ b then 2 ^ 63 else 0 := by
  show (BitVec.ofInt 64 (b : Int) &&& BitVec.ofInt 64 9223372036854775808).toNat = _
  have e : (BitVec.ofInt 64 9223372036854775808).toNat = 2 ^ 63 := by decide
  rw [BitVec.toNat_and, e, BitVec.ofInt_natCast, BitVec.toNat_ofNat, Nat.mod_eq_of_lt (show b < 2 ^ 64 from hb)]
  apply Nat.eq_of_testBit_eq
  intro i
  rw [Nat.testBit_and, Nat.testBit_two_pow]
  by_cases hi : 63 = i
  · subst hi
    rw [Nat.testBit_eq_decide_div_mod_eq]
    by_cases h : 2 ^ 63 ≤ b
    · have : b / 2 ^ 63 % 2 = 1 := by omega
      rw [if_pos h, this]; decide
    · have : b / 2 ^ 63 % 2 = 0 := by omega
      rw [if_neg h, this]; simp
  · by_cases h : 2 ^ 63 ≤ b
    · rw [if_pos h, Nat.testBit_two_pow]; simp [hi]
    · rw [if_neg h]; simp [hi]
theorem ratN_pos (b : Nat) (h : b ≠ 0) : 0 < (ratN b).1 := by
  have main : ∀ (q : Nat) (e : Int), 0 < q → 0 < (if e < 0 then (q, 2 ^ (-e).toNat) else (q * 2 ^ e.toNat, 1)).1 := by
    intro q e hq
    split
    · exact hq
    · exact Nat.mul_pos hq (Nat.pow_pos (by decide))
  unfold ratN
  by_cases h0 : b / 2 ^ 52 = 0
  · simp only [if_pos h0]
    exact main _ _ (by omega)
  · simp only [if_neg h0]
    exact main _ _ (by omega)
theorem low400 {x y : Nat} (hx : 0 < x) (hy : Sml y) : belowN x y (-400) = false := by
  have h1 : (2 : Nat) ^ 1100 ≤ 2 ^ (3 * 400) := Nat.pow_le_pow_right (by decide) (by decide)
  have h2 : (2 : Nat) ^ (3 * 400) = 8 ^ 400 := by rw [Nat.pow_mul]
  have h3 : (8 : Nat) ^ 400 ≤ 10 ^ 400 := Nat.pow_le_pow_left (by decide) 400
  have h4 : 10 ^ 400 ≤ x * 10 ^ 400 := Nat.le_mul_of_pos_left _ hx
  have : y < 2 ^ 1100 := hy
  have h5 : y < 10 ^ 400 := by omega
  have h6 : (-(-400 : Int)).toNat = 400 := by decide
  have h7 : (-400 : Int) < 0 := by decide
  unfold belowN
  rw [if_pos h7, h6]
  exact decide_eq_false (by omega)
theorem Sml.blen {n : Nat} (h : Sml n) : blen n ≤ 1100 := (blen_le_iff _ _).2 h
theorem tdiv_bounds (a : Int) (h1 : -1100 ≤ a) (h2 : a ≤ 1100) : -340 ≤ (a * 30103).tdiv 100000 ∧ (a * 30103).tdiv 100000 ≤ 340 := by
  rcases Int.le_total 0 a with h | h
  · rw [Int.tdiv_eq_ediv_of_nonneg (by omega)]; omega
  · have e : a * 30103 = -((-a) * 30103) := by omega
    rw [e, Int.neg_tdiv, Int.tdiv_eq_ediv_of_nonneg (by omega)]; omega
theorem show_s (b : Nat) (hb : b < 18446744073709551616) : rk Tryd.prog pol (Task.call 17 [V.d (D.i .u64 (b : Int))] []) = some (.d (.s (showB b)), []) := by
  have h1 : (b : Int).fdiv 4503599627370496 = ((b / 2 ^ 52 : Nat) : Int) := fdiv_nat b 4503599627370496
  have h2 : (BitVec.ofInt IntKind.u64.bits ((b / 2 ^ 52 : Nat) : Int) &&& BitVec.ofInt IntKind.u64.bits 2047).toNat = b / 2 ^ 52 % 2048 :=
    and_mod (b := b / 2 ^ 52) (k := 11) (by omega) 2047 (by decide)
  have w1 : IntKind.u64.wrap ((b / 2 ^ 52 % 2048 : Nat) : Int) = ((b / 2 ^ 52 % 2048 : Nat) : Int) := by rw [u64_wrap]; omega
  have h3 : (BitVec.ofInt IntKind.u64.bits (b : Int) &&& ~~~BitVec.ofInt IntKind.u64.bits 9223372036854775808).toNat = b % 2 ^ 63 := and_mod' hb _ (by decide)
  have w3 : IntKind.u64.wrap ((b % 2 ^ 63 : Nat) : Int) = ((b % 2 ^ 63 : Nat) : Int) := by rw [u64_wrap]; omega
  have main : b / 2 ^ 52 % 2048 ≠ 2047 → ∀ out : List UInt8, out.length ≤ 1000 → rk Tryd.prog pol (Task.at_ 17 0 [true, true, true, true] (sv 76 [(0, V.d (D.i IntKind.u64 ((b % 2 ^ 63 : Nat) : Int))), (3, V.d (D.s out))]) [] []) =
      some (.d (.s (if b % 2 ^ 63 = 0 then out ++ [48, 46, 48, 101, 48] else showN out (ratN (b % 2 ^ 63)).1 (ratN (b % 2 ^ 63)).2)), []) := by
    intro hk out ho
    rw [f15_at31]
    by_cases h0 : b % 2 ^ 63 = 0
    · have hl : out.length + 5 < 4611686018427387904 := by omega
      rw [h0]
      simp only [interp_brB, Int.natCast_zero, beq_self_eq_true, if_true, interp_ift', decide_eq_true hl, interp_ret]
    · have hk2 : b % 2 ^ 63 / 2 ^ 52 < 2047 := by omega
      have hr := ratio_ws (b % 2 ^ 63) (by omega) hk2
      obtain ⟨sx, sy, y0⟩ := ratN_sml (b % 2 ^ 63) (by omega) hk2
      have x0 := ratN_pos (b % 2 ^ 63) h0
      have hne : ((((b % 2 ^ 63 : Nat) : Int)) == 0) = false := beq_eq_false_iff_ne.2 (by omega)
      generalize (b % 2 ^ 63 : Nat) = c at h0 hr sx sy y0 x0 hne ⊢
      have b1 := bits_ws (nb (ratN c).1) (ratN c).1 sx.mid.fits
      have b2 := bits_ws (nb (ratN c).2) (ratN c).2 sy.mid.fits
      have l1 := sx.blen
      have l2 := sy.blen
      have hd := tdiv_bounds ((blen (ratN c).1 : Int) - blen (ratN c).2) (by omega) (by omega)
      have hL := show_loop out (ratN c).1 (ratN c).2 sx sy y0 ho (nb (ratN c).1) (nb (ratN c).2) (low400 x0 sy)
      rw [if_neg h0]
      unfold showN
      generalize (ratN c).1 = x at *
      generalize (ratN c).2 = y at *
      have v1 : IntKind.i64.wrap ((blen x : Int) - blen y) = (blen x : Int) - blen y := by rw [wrap_i64] <;> omega
      have v2 : IntKind.i64.wrap (((blen x : Int) - blen y) * 30103) = ((blen x : Int) - blen y) * 30103 := by rw [wrap_i64] <;> omega
      obtain ⟨z, hz⟩ : ∃ z, ((((blen x : Int) - blen y) * 30103).tdiv 100000) = z := ⟨_, rfl⟩
      rw [hz] at hd ⊢
      have v3 : IntKind.i64.wrap z = z := by rw [wrap_i64] <;> omega
      have v4 : IntKind.i64.wrap (z + 1) = (((z + 401).toNat : Nat) : Int) - 400 := by rw [wrap_i64] <;> omega
      have hL' := hL (z + 401).toNat (by omega)
      simp only [interp_brB, hne, Bool.false_eq_true, if_false, interp_call', hr, Option.bind_some, List.isEmpty_nil, interp_ift', if_true, unT_t, len2, List.getD_cons_zero, List.getD_cons_succ, asD_d, asL_l, b1, b2, interp_asI, v1, v2, hz, v3, v4, hL', interp_ret]
      rfl
  rw [f15, h1, h2, w1, h3, w3, and_top hb]
  unfold showB
  by_cases hk : b / 2 ^ 52 % 2048 = 2047
  · rw [hk]
    simp
  · have hne : ((((b / 2 ^ 52 % 2048 : Nat) : Int)) == 2047) = false := beq_eq_false_iff_ne.2 (by omega)
    rw [if_neg hk, interp_brB, hne, if_neg (by decide)]
    by_cases ht : 2 ^ 63 ≤ b
    · have hm := main hk [45] (by decide)
      have hw : ((IntKind.u64.wrap ((2 ^ 63 : Nat) : Int)) != 0) = true := by decide
      simp only [if_pos ht, hw, interp_brB, if_true, interp_call_ret, hm]
    · have hm := main hk [] (by decide)
      have e : b % 2 ^ 63 = b := Nat.mod_eq_of_lt (by omega)
      have hw : ((IntKind.u64.wrap ((0 : Nat) : Int)) != 0) = false := by decide
      rw [e] at hm
      simp only [if_neg ht, hw, interp_brB, Bool.false_eq_true, if_false, interp_call_ret, hm, e]
end Go.Dn.Dec
