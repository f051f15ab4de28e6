/- dec: near, joined, bitsOf, Int. -/
import Derived.Test.YtdilnnjabjpocaaDoorDe1
import Derived.Test.YtdilnnjabjpocaaDoorDe2
namespace Go.Dn.Dec
open Go.Proofs
set_option exponentiation.threshold 5000000
/-- The nearest whole number, the even one if two are. -/
def nearN (x y : Nat) : Nat := if y < 2 * (x % y) ∨ (2 * (x % y) = y ∧ x / y % 2 = 1) then x / y + 1 else x / y
theorem fits_one : Fits 1 := fits_two (Nat.one_lt_two_pow (by decide))
theorem of_one : rk Tryd.prog pol (Task.call 23 [V.d (D.i .u64 1)] []) = some (.d (.l (nb 1) (ws 1)), []) := of_ws 1 (by decide)
theorem low_bit {q : Nat} : (IntKind.u64.wrap (((BitVec.ofInt IntKind.u64.bits ((q % 18446744073709551616 : Nat) : Int) &&& BitVec.ofInt IntKind.u64.bits 1).toNat : Nat) : Int) == 1) = decide (q % 2 = 1) := by
  have e : (BitVec.ofInt IntKind.u64.bits ((q % 18446744073709551616 : Nat) : Int) &&& BitVec.ofInt IntKind.u64.bits 1).toNat = q % 2 := by
    show (BitVec.ofInt 64 ((q % 18446744073709551616 : Nat) : Int) &&& BitVec.ofInt 64 1).toNat = _
    rw [BitVec.toNat_and, BitVec.ofInt_natCast, BitVec.toNat_ofNat]
    have : (BitVec.ofInt 64 1).toNat = 1 := by decide
    rw [this, Nat.and_one_is_mod]; omega
  rw [e, u64_wrap, mod_64 (by omega)]
  rcases Nat.mod_two_eq_zero_or_one q with h | h <;> simp [h]
theorem near_ws (b c : Bool) (x y : Nat) (hx : Fits x) (hx1 : Fits (x + 1)) (hy : Fits (y * 2)) (hy0 : 0 < y) : rk Tryd.prog pol (Task.call 54 [V.d (D.l b (ws x)), V.d (D.l c (ws y))] []) = some (.d (.l (nb (nearN x y)) (ws (nearN x y))), []) := by
  rw [f54]
  have hdv := div_ws b c x y hx hy hy0
  have hr : x % y < y := Nat.mod_lt _ hy0
  have fr : Fits (x % y) := hy.le (by omega)
  have hs : rk Tryd.prog pol (Task.call 53 [V.d (D.l (nb (x % y)) (ws (x % y))), V.d (D.i .i64 1)] []) = some (.d (.l (nb (x % y * 2 ^ 1)) (ws (x % y * 2 ^ 1))), []) := shl_ws (nb (x % y)) (x % y) 1 fr (by decide)
  rw [Nat.pow_one] at hs
  have hc := cmp_ws (nb (x % y * 2)) c (x % y * 2) y (hy.le (by omega)) (hy.le (by omega))
  have hq : x / y ≤ x := Nat.div_le_self _ _
  have hl := low_ws (nb (x / y)) (x / y) (hx.le hq)
  have ha := add_ws (nb (x / y)) (nb 1) (x / y) 1 (hx.le hq) fits_one
  have t1 : ∀ bb : Bool, rk Tryd.prog pol (Task.at_ 54 0 [true, false, true, true, true] (sv 36 [(5, V.d (D.l (nb (x / y)) (ws (x / y)))), (31, V.d (D.b bb))]) [] []) = some (.d (.l (nb (if bb = true then x / y + 1 else x / y)) (ws (if bb = true then x / y + 1 else x / y))), []) := by
    intro bb
    rw [f54_at55]
    cases bb
    · simp
    · simp [of_one, ha]
  simp only [interp_call', hdv, Option.bind_some, List.isEmpty_nil, interp_ift', if_true, unT_t, List.length_cons, List.length_nil, Nat.zero_add, Nat.reduceAdd, beq_self_eq_true, List.getD_cons_zero, List.getD_cons_succ, asD_d, asL_l, asB_b, hs, hc, interp_asI, interp_brB, interp_ret, hl, low_bit, t1]
  unfold nearN cmpN
  by_cases h1 : x % y * 2 < y
  · simp only [if_pos h1]
    rw [if_neg (by decide), if_neg (by decide)]
    have : ¬ (y < 2 * (x % y) ∨ (2 * (x % y) = y ∧ x / y % 2 = 1)) := by omega
    simp [this]
  · by_cases h2 : y < x % y * 2
    · simp only [if_neg h1, if_pos h2]
      have : (y < 2 * (x % y) ∨ (2 * (x % y) = y ∧ x / y % 2 = 1)) := by omega
      simp [this]
    · simp only [if_neg h1, if_neg h2]
      have e : (y < 2 * (x % y) ∨ (2 * (x % y) = y ∧ x / y % 2 = 1)) = (x / y % 2 = 1) := propext (by omega)
      simp only [e]
      simp
/-! ### The bits of a number up to 2^53 times a power of two -/
def joinedN (q : Nat) (e : Int) : Nat × Bool :=
  if q < 2 ^ 52 then (q, true) else if 971 < e then (0, false) else ((e + 1075).toNat * 2 ^ 52 + (q - 2 ^ 52), true)
theorem or_mul {a b k : Nat} (h : b < 2 ^ k) : a * 2 ^ k ||| b = a * 2 ^ k + b := by
  rw [Nat.or_comm, or_add h, Nat.add_comm]
theorem joined_run (q : Nat) (e : Int) (hq : q < 2 ^ 53) (he1 : -1074 ≤ e) (he2 : e ≤ 1000000) :
    rk Tryd.prog pol (Task.call 55 [V.d (D.i .u64 (q : Int)), V.d (D.i .i64 e)] []) = some (.t [.d (.i .u64 ((joinedN q e).1 : Nat)), .d (.b (joinedN q e).2)], []) := by
  rw [f55]
  unfold joinedN
  have hf : ((q : Int).fdiv 4503599627370496 == 0) = decide (q < 2 ^ 52) := by
    have := fdiv_nat q 4503599627370496
    have e1 : (q : Int).fdiv 4503599627370496 = ((q / 4503599627370496 : Nat) : Int) := this
    rw [e1]
    by_cases h : q < 2 ^ 52
    · rw [Nat.div_eq_of_lt (by simpa using h)]; simp; omega
    · have : q / 4503599627370496 ≠ 0 := by omega
      rw [beq_eq_false_iff_ne.2 (by omega)]; simp [h]
  by_cases h : q < 2 ^ 52
  · simp [hf, h]
  · by_cases h2 : e > 971
    · simp [hf, h, h2]
    · have hb : (BitVec.ofInt IntKind.u64.bits (q : Int) &&& BitVec.ofInt IntKind.u64.bits 4503599627370495).toNat = q - 2 ^ 52 := by
        show (BitVec.ofInt 64 (q : Int) &&& BitVec.ofInt 64 4503599627370495).toNat = _
        rw [BitVec.toNat_and, BitVec.ofInt_natCast, BitVec.toNat_ofNat]
        have e2 : (BitVec.ofInt 64 4503599627370495).toNat = 2 ^ 52 - 1 := by decide
        rw [e2, Nat.and_two_pow_sub_one_eq_mod]; omega
      have hw0 : IntKind.i64.wrap (e - -1074) = e + 1074 := by rw [wrap_i64] <;> omega
      have hw1 : IntKind.i64.wrap (e + 1074 + 1) = ((e + 1075).toNat : Int) := by rw [wrap_i64] <;> omega
      have hE : (e + 1075).toNat ≤ 2046 := by omega
      have hE2 : 1 ≤ (e + 1075).toNat := by omega
      generalize (e + 1075).toNat = E at hw1 hE hE2 ⊢
      have hw2 : IntKind.u64.wrap (E : Int) = (E : Int) := by rw [u64_wrap]; omega
      have hw3 : IntKind.u64.wrap ((E : Int) * 4503599627370496) = ((E * 2 ^ 52 : Nat) : Int) := by rw [u64_wrap]; omega
      have hw4 : IntKind.u64.wrap ((q - 2 ^ 52 : Nat) : Int) = ((q - 2 ^ 52 : Nat) : Int) := by rw [u64_wrap]; omega
      have hor : (BitVec.ofInt IntKind.u64.bits ((E * 2 ^ 52 : Nat) : Int) ||| BitVec.ofInt IntKind.u64.bits ((q - 2 ^ 52 : Nat) : Int)).toNat = E * 2 ^ 52 + (q - 2 ^ 52) := by
        have := or_nat (a := E * 2 ^ 52) (b := q - 2 ^ 52) (by omega) (by omega)
        rw [or_mul (by omega)] at this
        exact this
      have hw5 : IntKind.u64.wrap ((E * 2 ^ 52 + (q - 2 ^ 52) : Nat) : Int) = ((E * 2 ^ 52 + (q - 2 ^ 52) : Nat) : Int) := by rw [u64_wrap]; omega
      have h3 : ¬ (971 < e) := h2
      simp only [interp_brB, hf, h, decide_false, Bool.false_eq_true, if_false, h2, hb, hw0, hw1, hw2, hw3, hw4, hor, hw5, interp_ret]
/-- A quotient times a power of two, rounded. -/
def nearAt (x y : Nat) (e : Int) : Nat := if e < 0 then nearN (x * 2 ^ (-e).toNat) y else nearN x (y * 2 ^ e.toNat)
def firstE (x y : Nat) : Int := max ((blen x : Int) - blen y - 53) (-1074)
def bitsN (x y : Nat) : Nat × Bool :=
  if x = 0 then (0, true)
  else if blen (nearAt x y (firstE x y)) ≤ 53 then joinedN (nearAt x y (firstE x y)) (firstE x y)
  else if blen (nearAt x y (firstE x y + 1)) ≤ 53 then joinedN (nearAt x y (firstE x y + 1)) (firstE x y + 1)
  else joinedN (nearAt x y (firstE x y + 2)) (firstE x y + 2)
theorem nearN_le {x y k : Nat} (hy : 0 < y) (h : x ≤ k * y) : nearN x y ≤ k := by
  have hd := Nat.div_add_mod x y
  have hr : x % y < y := Nat.mod_lt _ hy
  have h1 : x / y ≤ k := Nat.div_le_of_le_mul (by rw [Nat.mul_comm]; exact h)
  unfold nearN
  split
  · rcases Nat.lt_or_ge (x / y) k with h2 | h2
    · omega
    · have : x / y = k := by omega
      rw [this, Nat.mul_comm] at hd
      omega
  · exact h1
theorem nearAt_le (x y : Nat) (hy : 0 < y) (e : Int) (k : Nat) (h : if e < 0 then x * 2 ^ (-e).toNat ≤ k * y else x ≤ k * (y * 2 ^ e.toNat)) : nearAt x y e ≤ k := by
  unfold nearAt
  split
  · rename_i he; rw [if_pos he] at h; exact nearN_le hy h
  · rename_i he; rw [if_neg he] at h; exact nearN_le (Nat.mul_pos hy (Nat.pow_pos (by decide))) h
/-- Two further on the quotient has 53 bits. -/
theorem third (x y : Nat) (hx : x ≠ 0) (hy : 0 < y) : nearAt x y (firstE x y + 2) ≤ 2 ^ 52 := by
  apply nearAt_le x y hy
  have hx2 := lt_blen x
  have hy2 := blen_le y (by omega)
  have hyp := blen_pos (n := y) (by omega)
  have hf : (blen x : Int) - blen y - 53 ≤ firstE x y := Int.le_max_left ..
  generalize firstE x y = e at hf
  split
  · rename_i he
    have h1 : x * 2 ^ (-(e + 2)).toNat ≤ 2 ^ (blen x + (-(e + 2)).toNat) := by
      rw [Nat.pow_add]; exact Nat.mul_le_mul_right _ (Nat.le_of_lt hx2)
    have h2 : 2 ^ (52 + (blen y - 1)) ≤ 2 ^ 52 * y := by rw [Nat.pow_add]; exact Nat.mul_le_mul_left _ hy2
    exact Nat.le_trans h1 (Nat.le_trans (Nat.pow_le_pow_right (by decide) (by omega)) h2)
  · rename_i he
    have h2 : 2 ^ (52 + (blen y - 1) + (e + 2).toNat) ≤ 2 ^ 52 * (y * 2 ^ (e + 2).toNat) := by
      rw [Nat.pow_add, Nat.pow_add, ← Nat.mul_assoc]; exact Nat.mul_le_mul_right _ (Nat.mul_le_mul_left _ hy2)
    exact Nat.le_trans (Nat.le_of_lt hx2) (Nat.le_trans (Nat.pow_le_pow_right (by decide) (by omega)) h2)
/-- Numbers of moderate length. -/
def Mid (n : Nat) : Prop := n < 2 ^ 4000
theorem Mid.fits {n : Nat} (h : Mid n) : Fits n := fits_two (Nat.lt_of_lt_of_le h (Nat.pow_le_pow_right (by decide) (by decide)))
theorem Mid.mul_fits {n k : Nat} (h : Mid n) (hk : k ≤ 10000) : Fits (n * 2 ^ k) ∧ Fits (n * 2 ^ k + 1) ∧ Fits (n * 2 ^ k * 2) := by
  have h1 : n * 2 ^ k + 1 ≤ 2 ^ (4000 + k) := by rw [Nat.pow_add]; exact Nat.mul_lt_mul_of_pos_right h (Nat.pow_pos (by decide))
  have h3 : n * 2 ^ k * 2 ≤ 2 ^ (4000 + k + 1) := by rw [Nat.pow_succ]; exact Nat.mul_le_mul_right _ (by omega)
  have h2 : 2 ^ (4000 + k + 1) < 2 ^ 300000 := Nat.pow_lt_pow_right (by decide) (by omega)
  have h4 : 2 ^ (4000 + k) ≤ 2 ^ (4000 + k + 1) := Nat.pow_le_pow_right (by decide) (by omega)
  exact ⟨fits_two (by omega), fits_two (by omega), fits_two (by omega)⟩
theorem Mid.blen {n : Nat} (h : Mid n) : blen n ≤ 4000 := (blen_le_iff _ _).2 h
theorem Mid.fits1 {n : Nat} (h : Mid n) : Fits (n + 1) := by have := (h.mul_fits (k := 0) (by decide)).2.1; rwa [Nat.pow_zero, Nat.mul_one] at this
theorem Mid.fits2 {n : Nat} (h : Mid n) : Fits (n * 2) := by have := (h.mul_fits (k := 0) (by decide)).2.2; rwa [Nat.pow_zero, Nat.mul_one] at this
theorem bits_step (b c : Bool) (x y : Nat) (hx : Mid x) (hy : Mid y) (hy0 : 0 < y) (e : Int) (he1 : -1074 ≤ e) (he2 : e ≤ 10000) :
    rk Tryd.prog pol (Task.at_ 26 0 [false, true, true, true] (sv 46 [(0, V.d (D.l b (ws x))), (1, V.d (D.l c (ws y))), (6, V.d (D.i .i64 e))]) [] []) =
      if blen (nearAt x y e) ≤ 53 then some (.t [.d (.i .u64 ((joinedN (nearAt x y e) e).1 : Nat)), .d (.b (joinedN (nearAt x y e) e).2)], [])
      else rk Tryd.prog pol (Task.at_ 26 0 [false, true, true, true] (sv 46 [(0, V.d (D.l b (ws x))), (1, V.d (D.l c (ws y))), (6, V.d (D.i .i64 (e + 1)))]) [] []) := by
  have hw1 : IntKind.i64.wrap (e + 1) = e + 1 := by rw [wrap_i64] <;> omega
  have main : ∀ (b1 c1 : Bool) (p q : Nat), Fits p → Fits (p + 1) → Fits (q * 2) → 0 < q → nearN p q = nearAt x y e →
    rk Tryd.prog pol (Task.at_ 26 0 [true, true, false, false, false, true, true, true] (sv 46 [(0, V.d (D.l b (ws x))), (1, V.d (D.l c (ws y))), (6, V.d (D.i .i64 e)), (7, V.d (D.l b1 (ws p))), (8, V.d (D.l c1 (ws q)))]) [] []) =
     if blen (nearAt x y e) ≤ 53 then some (.t [.d (.i .u64 ((joinedN (nearAt x y e) e).1 : Nat)), .d (.b (joinedN (nearAt x y e) e).2)], [])
      else rk Tryd.prog pol (Task.at_ 26 0 [false, true, true, true] (sv 46 [(0, V.d (D.l b (ws x))), (1, V.d (D.l c (ws y))), (6, V.d (D.i .i64 (e + 1)))]) [] []) := by
    intro b1 c1 p q hp hp1 hq hq0 hn
    rw [f26_at455]
    have h1 := near_ws b1 c1 p q hp hp1 hq hq0
    rw [hn] at h1
    have hle : nearN p q ≤ p + 1 := by
      unfold nearN
      have := Nat.div_le_self p q
      split <;> omega
    have fn : Fits (nearAt x y e) := hn ▸ hp1.le hle
    have h2 := bits_ws (nb (nearAt x y e)) (nearAt x y e) fn
    have h3 := low_ws (nb (nearAt x y e)) (nearAt x y e) fn
    by_cases hb : blen (nearAt x y e) ≤ 53
    · have hb' : ((blen (nearAt x y e) : Nat) : Int) ≤ 53 := by omega
      have hlt : nearAt x y e < 2 ^ 53 := (blen_le_iff _ _).1 hb
      have hj := joined_run (nearAt x y e) e hlt he1 (by omega)
      have hm : nearAt x y e % 18446744073709551616 = nearAt x y e := Nat.mod_eq_of_lt (by omega)
      rw [hm] at h3
      rw [if_pos hb]
      simp only [interp_call', h1, h2, h3, Option.bind_some, List.isEmpty_nil, interp_ift', if_true, asD_d, asL_l, interp_asI, interp_brB, decide_eq_true hb', hj, unT_t, List.length_cons, List.length_nil, Nat.zero_add, Nat.reduceAdd, beq_self_eq_true, List.getD_cons_zero, List.getD_cons_succ, asB_b, interp_ret]
    · have hb' : ¬ ((blen (nearAt x y e) : Nat) : Int) ≤ 53 := by omega
      rw [if_neg hb]
      simp only [interp_call', h1, h2, Option.bind_some, List.isEmpty_nil, interp_ift', if_true, asD_d, asL_l, interp_asI, interp_brB, decide_eq_false hb', Bool.false_eq_true, if_false, hw1, interp_ret]
      generalize rk Tryd.prog pol (Task.at_ 26 0 [false, true, true, true] _ _ _) = R
      cases R <;> rfl
  rw [f26_at23]
  by_cases he : e < 0
  · have hw0 : IntKind.i64.wrap (0 - e) = ((-e).toNat : Int) := by rw [wrap_i64] <;> omega
    have hs := shl_ws b x (-e).toNat hx.fits (by omega)
    obtain ⟨f1, f2, -⟩ := hx.mul_fits (k := (-e).toNat) (by omega)
    simp only [interp_brB, decide_eq_true he, if_true, hw0, interp_call', hs, Option.bind_some, List.isEmpty_nil, interp_ift', asD_d, asL_l, interp_ret]
    rw [main _ _ _ _ f1 f2 hy.fits2 hy0 (by rw [nearAt, if_pos he])]
    split
    · rfl
    · generalize rk Tryd.prog pol (Task.at_ 26 0 [false, true, true, true] _ _ _) = R
      cases R <;> rfl
  · have hw0 : e = (e.toNat : Int) := by omega
    have hs := shl_ws c y e.toNat hy.fits (by omega)
    rw [← hw0] at hs
    obtain ⟨-, -, f2⟩ := hy.mul_fits (k := e.toNat) (by omega)
    simp only [interp_brB, decide_eq_false he, Bool.false_eq_true, if_false, interp_call', hs, Option.bind_some, List.isEmpty_nil, interp_ift', if_true, asD_d, asL_l, interp_ret]
    rw [main _ _ _ _ hx.fits hx.fits1 f2 (Nat.mul_pos hy0 (Nat.pow_pos (by decide))) (by rw [nearAt, if_neg he])]
    split
    · rfl
    · generalize rk Tryd.prog pol (Task.at_ 26 0 [false, true, true, true] _ _ _) = R
      cases R <;> rfl
theorem bitsOf_ws (b c : Bool) (x y : Nat) (hx : Mid x) (hy : Mid y) (hy0 : 0 < y) :
    rk Tryd.prog pol (Task.call 26 [V.d (D.l b (ws x)), V.d (D.l c (ws y))] []) = some (.t [.d (.i .u64 ((bitsN x y).1 : Nat)), .d (.b (bitsN x y).2)], []) := by
  rw [f26]
  have h1 := bits_ws b x hx.fits
  have h2 := bits_ws c y hy.fits
  have hbx := hx.blen
  have hby := hy.blen
  by_cases h0 : x = 0
  · have hb : blen x = 0 := by rw [h0]; rfl
    rw [hb] at h1
    rw [bitsN, if_pos h0]
    simp [h1]
  · have hb := blen_pos h0
    have hne : (((blen x : Nat) : Int) == 0) = false := beq_eq_false_iff_ne.2 (by omega)
    have hw1 : IntKind.i64.wrap (((blen x : Nat) : Int) - ((blen y : Nat) : Int)) = (blen x : Int) - blen y := by rw [wrap_i64] <;> omega
    have hw2 : IntKind.i64.wrap ((blen x : Int) - blen y - 52) = (blen x : Int) - blen y - 52 := by rw [wrap_i64] <;> omega
    have hw3 : IntKind.i64.wrap ((blen x : Int) - blen y - 52 - 1) = (blen x : Int) - blen y - 53 := by rw [wrap_i64] <;> omega
    have hE : (if -1074 > (blen x : Int) - blen y - 53 then (-1074 : Int) else (blen x : Int) - blen y - 53) = firstE x y := by
      unfold firstE; split <;> omega
    have hE1 : -1074 ≤ firstE x y := Int.le_max_right ..
    have hE2 : firstE x y ≤ 4000 := by unfold firstE; omega
    have h3 := third x y h0 hy0
    have hb3 : blen (nearAt x y (firstE x y + 2)) ≤ 53 := (blen_le_iff _ _).2 (by have : (2:Nat) ^ 52 < 2 ^ 53 := by decide
                                                                                  omega)
    simp only [interp_call', h1, h2, Option.bind_some, List.isEmpty_nil, interp_ift', if_true, asD_d, interp_asI, interp_brB, hne, Bool.false_eq_true, if_false, hw1, hw2, hw3, hE, interp_ret]
    rw [bits_step b c x y hx hy hy0 _ hE1 (by omega), bits_step b c x y hx hy hy0 _ (by omega) (by omega), bits_step b c x y hx hy hy0 _ (by omega) (by omega), show firstE x y + 1 + 1 = firstE x y + 2 by omega, if_pos hb3]
    rw [bitsN, if_neg h0]
    split
    · rfl
    · split <;> rfl
/-! ### Int -/
def signV (neg : Bool) (v : Nat) : Nat := if neg = true then v ||| 2 ^ 63 else v
def intN (v : Int) : Nat := signV (decide (v < 0)) (bitsN v.natAbs 1).1
end Go.Dn.Dec
namespace Go.Dn.Dec
open Go.Proofs
set_option exponentiation.threshold 5000000
theorem joinedN_lt {q : Nat} (e : Int) (h : q < 2 ^ 53) : (joinedN q e).1 < 2 ^ 63 := by
  unfold joinedN
  split
  · simp only; omega
  · split
    · simp only; omega
    · simp only; omega
theorem bitsN_lt (x y : Nat) (hy : 0 < y) : (bitsN x y).1 < 2 ^ 63 := by
  unfold bitsN
  split
  · simp only; omega
  · split
    · rename_i h; exact joinedN_lt _ ((blen_le_iff _ _).1 h)
    · split
      · rename_i h; exact joinedN_lt _ ((blen_le_iff _ _).1 h)
      · rename_i h0 _ _
        have := third x y h0 hy
        exact joinedN_lt _ (by omega)
theorem sign_or {v : Nat} (h : v < 2 ^ 63) : IntKind.u64.wrap (((BitVec.ofInt IntKind.u64.bits (v : Int) ||| BitVec.ofInt IntKind.u64.bits 9223372036854775808).toNat : Nat) : Int) = ((v ||| 2 ^ 63 : Nat) : Int) ∧ v ||| 2 ^ 63 = v + 2 ^ 63 := by
  have h1 : v ||| 2 ^ 63 = v + 2 ^ 63 := by
    have := or_add (c := v) (a := 1) (k := 63) h
    rwa [Nat.one_mul] at this
  have e63 : (2 : Nat) ^ 63 = 9223372036854775808 := by decide
  have h2 : (BitVec.ofInt IntKind.u64.bits (v : Int) ||| BitVec.ofInt IntKind.u64.bits 9223372036854775808).toNat = v ||| 2 ^ 63 := by
    rw [e63]; exact or_nat (a := v) (b := 9223372036854775808) (by omega) (by decide)
  rw [h2]
  refine ⟨?_, h1⟩
  rw [h1, u64_wrap]; omega
theorem mid_lt {n : Nat} (h : n < 2 ^ 4000) : Mid n := h
theorem mid_one : Mid 1 := Nat.one_lt_two_pow (by decide)
theorem mid_u64 {n : Nat} (h : n < 18446744073709551616) : Mid n := mid_lt (Nat.lt_of_lt_of_le h (show (2:Nat) ^ 64 ≤ 2 ^ 4000 from Nat.pow_le_pow_right (by decide) (by decide)))
theorem int_run (v : Int) (h1 : -9223372036854775808 ≤ v) (h2 : v ≤ 9223372036854775807) : rk Tryd.prog pol (Task.call 17 [V.d (D.i .i64 v)] []) = some (.d (.i .u64 (intN v : Nat)), []) := by
  have hn : v.natAbs < 18446744073709551616 := by omega
  have ho := of_ws v.natAbs hn
  have hb := bitsOf_ws (nb v.natAbs) (nb 1) v.natAbs 1 (mid_u64 hn) mid_one (by decide)
  have hlt := bitsN_lt v.natAbs 1 (by decide)
  have hs := (sign_or hlt).1
  have main : rk Tryd.prog pol (Task.at_ 17 0 [true, true, true] (sv 24 [(0, V.d (D.i IntKind.i64 v)), (3, V.d (D.i IntKind.u64 (v.natAbs : Int)))]) [] []) = some (.d (.i .u64 (intN v : Nat)), []) := by
    rw [f17_at15]
    unfold intN signV
    by_cases h : v < 0
    · simp only [interp_call', ho, of_one, hb, Option.bind_some, List.isEmpty_nil, interp_ift', if_true, asD_d, asL_l, unT_t, List.length_cons, List.length_nil, Nat.zero_add, Nat.reduceAdd, beq_self_eq_true, List.getD_cons_zero, List.getD_cons_succ, interp_asI, asB_b, interp_brB, decide_eq_true h, hs, interp_ret]
    · simp only [interp_call', ho, of_one, hb, Option.bind_some, List.isEmpty_nil, interp_ift', if_true, asD_d, asL_l, unT_t, List.length_cons, List.length_nil, Nat.zero_add, Nat.reduceAdd, beq_self_eq_true, List.getD_cons_zero, List.getD_cons_succ, interp_asI, asB_b, interp_brB, decide_eq_false h, Bool.false_eq_true, if_false, interp_ret]
  rw [f17]
  by_cases h : v < 0
  · have hw : IntKind.u64.wrap (0 - IntKind.u64.wrap v) = (v.natAbs : Int) := by rw [u64_wrap, u64_wrap]; omega
    simp only [interp_brB, decide_eq_true h, if_true, hw, interp_call_ret, main]
  · have hw : IntKind.u64.wrap v = (v.natAbs : Int) := by rw [u64_wrap]; omega
    simp only [interp_brB, decide_eq_false h, Bool.false_eq_true, if_false, hw, interp_call_ret, main]
/-! ### Texts -/
theorem len2 (a b : V) : ([a, b].length == 2) = true := rfl
theorem len3 (a b c : V) : ([a, b, c].length == 3) = true := rfl
def isDig (c : UInt8) : Bool := decide (48 ≤ c.toNat) && decide (c.toNat ≤ 57)
def runN' (s : List UInt8) : List UInt8 × List UInt8 := (s.takeWhile isDig, s.dropWhile isDig)
theorem run_loop : ∀ (r p : List UInt8), (p ++ r).length ≤ 1000000 →
    rk Tryd.prog pol (Task.at_ 48 0 [false, false, true, true] (sv 29 [(0, V.d (D.s (p ++ r))), (4, V.d (D.i IntKind.i64 (p.length : Int)))]) [] []) = some (.t [.d (.s (p ++ r.takeWhile isDig)), .d (.s (r.dropWhile isDig))], [])
  | [], p, hl => by
    rw [f48_at19, List.append_nil]
    have h : ¬ ((p.length : Int) < (p.length : Int)) := by omega
    have h2 : (0 : Int) ≤ (p.length : Int) := by omega
    simp [h, f48_at195, h2]
  | c :: r, p, hl => by
    rw [f48_at19]
    have hi : p.length < (p ++ c :: r).length := by simp
    have hi' : ((p.length : Nat) : Int) < (((p ++ c :: r).length : Nat) : Int) := by omega
    have g : (p ++ c :: r)[p.length]? = some c := by simp
    have hpl : (p ++ [c]).length = p.length + 1 := by simp
    have hwl : p.length + (r.length + 1) ≤ 1000000 := by simpa using hl
    have hw : IntKind.i64.wrap ((p.length : Int) + 1) = (((p ++ [c]).length : Nat) : Int) := by rw [hpl, wrap_i64] <;> omega
    have ih := run_loop r (p ++ [c]) (by simpa using hl)
    rw [List.append_assoc, List.singleton_append] at ih
    have hstop : isDig c = false → rk Tryd.prog pol (Task.at_ 48 0 [true, false, false, false, false, true, true] (sv 29 [(0, V.d (D.s (p ++ c :: r))), (4, V.d (D.i IntKind.i64 (p.length : Int))), (20, V.d (D.b false))]) [] []) = some (.t [.d (.s (p ++ (c :: r).takeWhile isDig)), .d (.s ((c :: r).dropWhile isDig))], []) := by
      intro hd
      rw [f48_at195]
      have h2 : (0 : Int) ≤ (p.length : Int) ∧ (p.length : Int) ≤ (((p ++ c :: r).length : Nat) : Int) := by omega
      have e1 : List.take (p.length - 0) (List.drop 0 (p ++ c :: r)) = p := by simp
      have e2 : List.take ((p ++ c :: r).length - p.length) (List.drop p.length (p ++ c :: r)) = c :: r := by simp
      simp only [interp_brB, Bool.false_eq_true, if_false, interp_ift', decide_eq_true h2, if_true, Int.toNat_natCast, e1, e2, interp_ret, List.takeWhile_cons, hd, List.dropWhile_cons, List.append_nil]
    simp only [interp_brB, decide_eq_true hi', if_true, getI_nat, g, interp_ob', Option.bind_some, interp_call_ret]
    by_cases h1 : (c.toNat : Int) ≥ 48
    · by_cases h2 : (c.toNat : Int) ≤ 57
      · have hd : isDig c = true := by simp [isDig]; omega
        rw [if_pos (by simpa using h1), f48_at195]
        simp only [interp_brB, decide_eq_true h2, if_true, hw, interp_call_ret, ih, List.takeWhile_cons, hd, List.dropWhile_cons]
        simp
      · have hd : isDig c = false := by simp [isDig]; omega
        rw [if_pos (by simpa using h1), decide_eq_false h2]
        exact hstop hd
    · have hd : isDig c = false := by simp [isDig]; omega
      rw [if_neg (by simpa using h1)]
      exact hstop hd
theorem run_s (s : List UInt8) (h : s.length ≤ 1000000) : rk Tryd.prog pol (Task.call 48 [V.d (D.s s)] []) = some (.t [.d (.s (s.takeWhile isDig)), .d (.s (s.dropWhile isDig))], []) := by
  rw [f48]
  have := run_loop s [] (by simpa using h)
  simpa using this
/-- A sign taken off. -/
def signB (s : List UInt8) : Bool × List UInt8 :=
  match s with
  | [] => (false, [])
  | c :: r => if c = 43 then (false, r) else if c = 45 then (true, r) else (false, c :: r)
theorem u8_eq (c d : UInt8) : ((c.toNat : Int) == (d.toNat : Int)) = decide (c = d) := by
  by_cases h : c = d
  · subst h; simp
  · have : c.toNat ≠ d.toNat := fun e => h (UInt8.toNat_inj.1 e)
    rw [beq_eq_false_iff_ne.2 (by omega)]; simp [h]
theorem u8_43 (c : UInt8) : ((c.toNat : Int) == 43) = decide (c = 43) := u8_eq c 43
theorem u8_45 (c : UInt8) : ((c.toNat : Int) == 45) = decide (c = 45) := u8_eq c 45
theorem u8_46 (c : UInt8) : ((c.toNat : Int) == 46) = decide (c = 46) := u8_eq c 46
theorem u8_101 (c : UInt8) : ((c.toNat : Int) != 101) = decide (c ≠ 101) := by
  rw [bne, show ((c.toNat : Int) == 101) = decide (c = 101) from u8_eq c 101]; by_cases h : c = 101 <;> simp [h]
theorem u8_69 (c : UInt8) : ((c.toNat : Int) != 69) = decide (c ≠ 69) := by
  rw [bne, show ((c.toNat : Int) == 69) = decide (c = 69) from u8_eq c 69]; by_cases h : c = 69 <;> simp [h]
theorem signed_s (s : List UInt8) : rk Tryd.prog pol (Task.call 47 [V.d (D.s s)] []) = some (.t [.d (.b (signB s).1), .d (.s (signB s).2)], []) := by
  rw [f47]
  cases s with
  | nil => simp [f47_at13, signB]
  | cons c r =>
    have e : (List.take ((c :: r).length - 1) (List.drop 1 (c :: r))) = r := by simp
    have hle : ((0 : Int) ≤ 1 ∧ (1 : Int) ≤ (((c :: r).length : Nat) : Int)) := ⟨by decide, by rw [List.length_cons]; omega⟩
    have hne : (!(c :: r) == []) = true := by simp
    simp only [interp_brB, hne, if_true, getI_zero, List.getElem?_cons_zero, interp_ob', Option.bind_some, u8_43, u8_45, interp_call_ret, f47_at13, interp_ift', decide_eq_true hle, e, interp_ret, decide_eq_true_eq, signB]
    by_cases h1 : c = 43
    · subst h1; simp
    · by_cases h2 : c = 45
      · subst h2; simp
      · simp [h1, h2]
structure Tx where
  neg : Bool
  whole : List UInt8
  part : List UInt8
  en : Bool
  ex : List UInt8
def Tx.g (t : Tx) : List D := [.b t.neg, .s t.whole, .s t.part, .b t.en, .s t.ex]
def finB (neg : Bool) (w p s : List UInt8) : Tx × Bool :=
  if w = [] ∧ p = [] then (⟨neg, w, p, false, []⟩, false)
  else match s with
    | [] => (⟨neg, w, p, false, []⟩, true)
    | c :: r => if c ≠ 101 ∧ c ≠ 69 then (⟨neg, w, p, false, []⟩, false)
      else (⟨neg, w, p, (signB r).1, (signB r).2.takeWhile isDig⟩, decide ((signB r).2.takeWhile isDig ≠ []) && decide ((signB r).2.dropWhile isDig = []))
def splitB (s : List UInt8) : Tx × Bool :=
  let n := (signB s).1
  let w := (signB s).2.takeWhile isDig
  match (signB s).2.dropWhile isDig with
  | [] => finB n w [] []
  | c :: r => if c = 46 then (if r.takeWhile isDig = [] then (⟨n, w, [], false, []⟩, false) else finB n w (r.takeWhile isDig) (r.dropWhile isDig)) else finB n w [] (c :: r)
theorem signB_len (s : List UInt8) : (signB s).2.length ≤ s.length := by
  unfold signB
  cases s with
  | nil => simp
  | cons c r => simp only; split <;> (try split) <;> simp
theorem drop_len (s : List UInt8) : (s.dropWhile isDig).length ≤ s.length := List.dropWhile_sublist isDig |>.length_le
theorem beq_nil (l : List UInt8) : (l == []) = decide (l = []) := by cases l <;> simp
theorem split_fin (neg : Bool) (w p s : List UInt8) (hs : s.length ≤ 1000000) :
    interp (rk Tryd.prog pol) (brB (w == [])
    (Tr.call
      (Task.at_ 20 0 [true, false, true, true, true, true] (sv 76 [(0, V.d (D.s s)), (2, V.p 0 0), (41, V.d (D.b (p == [])))]) []
        [Ob.cells [V.d (D.b neg), V.d (D.s w), V.d (D.s p), V.d (D.b false), V.d (D.s [])] []])
      Tr.ret)
    (Tr.call
      (Task.at_ 20 0 [true, false, true, true, true, true] (sv 76 [(0, V.d (D.s s)), (2, V.p 0 0), (41, V.d (D.b false))]) []
        [Ob.cells [V.d (D.b neg), V.d (D.s w), V.d (D.s p), V.d (D.b false), V.d (D.s [])] []])
      Tr.ret)) = some (.t [.d (.g (finB neg w p s).1.g), .d (.b (finB neg w p s).2)], []) := by
  have key : ∀ b : Bool, b = (w == [] && p == []) → rk Tryd.prog pol (Task.at_ 20 0 [true, false, true, true, true, true] (sv 76 [(0, V.d (D.s s)), (2, V.p 0 0), (41, V.d (D.b b))]) []
        [Ob.cells [V.d (D.b neg), V.d (D.s w), V.d (D.s p), V.d (D.b false), V.d (D.s [])] []]) = some (.t [.d (.g (finB neg w p s).1.g), .d (.b (finB neg w p s).2)], []) := by
    intro b hb
    rw [f20_at111]
    by_cases h0 : w = [] ∧ p = []
    · have : b = true := by rw [hb]; simp [h0]
      subst this
      unfold finB
      rw [if_pos h0]
      simp [Tx.g]
    · have : b = false := by rw [hb]; cases w <;> cases p <;> simp_all
      subst this
      unfold finB
      rw [if_neg h0]
      cases s with
      | nil => simp [Tx.g]
      | cons c r =>
        have hne : ((c :: r) == ([] : List UInt8)) = false := by simp
        have fin : ∀ bb : Bool, bb = decide (c ≠ 101 ∧ c ≠ 69) → rk Tryd.prog pol (Task.at_ 20 0 [true, false, true, true, true, true, true, true] (sv 76 [(0, V.d (D.s (c :: r))), (2, V.p 0 0), (53, V.d (D.b bb))]) []
              [Ob.cells [V.d (D.b neg), V.d (D.s w), V.d (D.s p), V.d (D.b false), V.d (D.s [])] []]) =
            some (.t [.d (.g (if c ≠ 101 ∧ c ≠ 69 then ((⟨neg, w, p, false, []⟩ : Tx), false) else (⟨neg, w, p, (signB r).1, (signB r).2.takeWhile isDig⟩, decide ((signB r).2.takeWhile isDig ≠ []) && decide ((signB r).2.dropWhile isDig = []))).1.g), .d (.b (if c ≠ 101 ∧ c ≠ 69 then ((⟨neg, w, p, false, []⟩ : Tx), false) else (⟨neg, w, p, (signB r).1, (signB r).2.takeWhile isDig⟩, decide ((signB r).2.takeWhile isDig ≠ []) && decide ((signB r).2.dropWhile isDig = []))).2)], []) := by
          intro bb hbb
          rw [f20_at447]
          by_cases hx : c ≠ 101 ∧ c ≠ 69
          · have : bb = true := by rw [hbb]; simp only [decide_eq_true_eq]; exact hx
            subst this
            rw [if_pos hx]
            simp [Tx.g]
          · have : bb = false := by rw [hbb]; simp only [decide_eq_false_iff_not]; exact hx
            subst this
            rw [if_neg hx]
            have e : (List.take ((c :: r).length - 1) (List.drop 1 (c :: r))) = r := by simp
            have hle : ((0 : Int) ≤ 1 ∧ (1 : Int) ≤ (((c :: r).length : Nat) : Int)) := ⟨by decide, by rw [List.length_cons]; omega⟩
            have hrl : r.length ≤ 1000000 := by simp at hs; omega
            have hrun := run_s (signB r).2 (Nat.le_trans (signB_len r) hrl)
            simp only [interp_brB, Bool.false_eq_true, if_false, interp_ift', decide_eq_true hle, if_true, e, interp_call', signed_s, hrun, Option.bind_some, List.isEmpty_nil, unT_t, len2, List.getD_cons_zero, List.getD_cons_succ, asD_d, asB_b, asS_s, interp_ret, beq_nil]
            by_cases hz : (signB r).2.takeWhile isDig = [] <;> simp [hz, Tx.g]
        simp only [interp_brB, Bool.false_eq_true, if_false, hne, getI_zero, List.getElem?_cons_zero, interp_ob', Option.bind_some, u8_101, u8_69, interp_call_ret, decide_eq_true_eq]
        by_cases h1 : c = 101
        · rw [if_neg (by simp [h1])]
          exact fin false (by simp [h1])
        · rw [if_pos (by simp [h1])]
          exact fin _ (by simp [h1])
  simp only [interp_brB, interp_call_ret]
  by_cases h : w = []
  · rw [if_pos (by simp [h])]; exact key _ (by simp [h])
  · rw [if_neg (by simp [h])]; exact key _ (by simp [h])
theorem split_s (s : List UInt8) (hs : s.length ≤ 1000000) : rk Tryd.prog pol (Task.call 20 [V.d (D.s s)] []) = some (.t [.d (.g (splitB s).1.g), .d (.b (splitB s).2)], []) := by
  rw [f20]
  have l1 := signB_len s
  have hrun := run_s (signB s).2 (by omega)
  have l2 := drop_len (signB s).2
  simp only [interp_brB, if_true, interp_call', signed_s, hrun, Option.bind_some, List.isEmpty_nil, interp_ift', unT_t, len2, List.getD_cons_zero, List.getD_cons_succ, asD_d, asB_b, asS_s, splitB]
  generalize (signB s).2.dropWhile isDig = s2 at l2
  generalize (signB s).2.takeWhile isDig = w
  generalize (signB s).1 = n
  have ret : ∀ R : Option Out, (R.bind fun o => interp (rk Tryd.prog pol) (Tr.ret o)) = R := fun R => by cases R <;> rfl
  cases s2 with
  | nil =>
    have h0 : (!([] : List UInt8) == []) = false := by simp
    have := split_fin n w [] [] (by simp)
    simp only [h0, Bool.false_eq_true, if_false, ret]
    rw [f20_at55]
    rw [interp_brB, if_neg (by decide)]
    exact this
  | cons c r =>
    have h0 : (!(c :: r) == ([] : List UInt8)) = true := by simp
    simp only [h0, if_true, getI_zero, List.getElem?_cons_zero, interp_ob', Option.bind_some, u8_46, ret, interp_call_ret]
    have hl : (c :: r).length ≤ 1000000 := by omega
    rw [f20_at55]
    by_cases h1 : c = 46
    · have e : (List.take ((c :: r).length - 1) (List.drop 1 (c :: r))) = r := by simp
      have hle : ((0 : Int) ≤ 1 ∧ (1 : Int) ≤ (((c :: r).length : Nat) : Int)) := ⟨by decide, by rw [List.length_cons]; omega⟩
      have hr := run_s r (by simp at hl; omega)
      have l3 := drop_len r
      have := split_fin n w (r.takeWhile isDig) (r.dropWhile isDig) (by simp at hl; omega)
      rw [if_pos h1]
      rw [interp_brB, if_pos (by simp [h1])]
      simp only [if_true, interp_ift', decide_eq_true hle, e, interp_call', hr, Option.bind_some, List.isEmpty_nil, unT_t, len2, List.getD_cons_zero, List.getD_cons_succ, asD_d, asS_s]
      by_cases hz : r.takeWhile isDig = []
      · simp [hz, Tx.g]
      · rw [if_neg hz]
        rw [interp_brB, if_neg (by simp [hz])]
        exact this
    · rw [if_neg h1]
      have := split_fin n w [] (c :: r) hl
      rw [interp_brB, if_neg (by simp [h1])]
      exact this
end Go.Dn.Dec
namespace Go.Dn.Dec
open Go.Proofs
set_option exponentiation.threshold 5000000
def digV (c : UInt8) : Nat := c.toNat - 48
def numF (v : Nat) (d : List UInt8) : Nat := d.foldl (fun a c => a * 10 + digV c) v
def numB (d : List UInt8) : Nat := numF 0 d
theorem isDig_iff (c : UInt8) : isDig c = true ↔ 48 ≤ c.toNat ∧ c.toNat ≤ 57 := by simp [isDig]
theorem digV_lt {c : UInt8} (h : isDig c = true) : digV c < 10 := by have := (isDig_iff c).1 h; unfold digV; omega
theorem decode_dig (s : List UInt8) (i : Nat) (c : UInt8) (h : s[i]? = some c) (hc : c.toNat < 128) : (Utf8.decode (ByteArray.mk s.toArray) i).2 = 1 := by
  have hb : ((ByteArray.mk s.toArray).get! (i + 0)).toNat = c.toNat := by
    show (s.toArray[i]!).toNat = c.toNat
    have : s.toArray[i]! = c := by
      rw [Array.getElem!_eq_getD, Array.getD_eq_getD_getElem?, List.getElem?_toArray, h]; rfl
    rw [this]
  unfold Utf8.decode
  simp only [hb]
  rw [if_pos hc]
theorem pow10_lt {n : Nat} (h : n ≤ 1000) : 10 ^ n < 2 ^ 4000 := by
  have h1 : 10 ^ n ≤ 10 ^ 1000 := Nat.pow_le_pow_right (by decide) h
  have h2 : 10 ^ 1000 ≤ 16 ^ 1000 := Nat.pow_le_pow_left (by decide) 1000
  have h3 : (16 : Nat) ^ 1000 = 2 ^ 4000 := by rw [show (16 : Nat) = 2 ^ 4 from rfl, ← Nat.pow_mul]
  have h4 : (10 : Nat) ^ 1000 < 16 ^ 1000 := Nat.pow_lt_pow_left (by decide) (by decide)
  omega
theorem numF_lt : ∀ (d : List UInt8) (v k : Nat), (∀ c ∈ d, isDig c = true) → v < 10 ^ k → numF v d < 10 ^ (k + d.length)
  | [], v, k, _, h => h
  | c :: d, v, k, hd, h => by
    have hc := digV_lt (hd c (by simp))
    have h2 : v * 10 + digV c < 10 ^ (k + 1) := by rw [Nat.pow_succ]; omega
    have := numF_lt d (v * 10 + digV c) (k + 1) (fun c h => hd c (by simp [h])) h2
    rw [List.length_cons, show k + (d.length + 1) = k + 1 + d.length by omega]
    exact this
theorem u8_sub {c : UInt8} (h : isDig c = true) : IntKind.u8.wrap ((c.toNat : Int) - 48) = (digV c : Int) := by
  have := (isDig_iff c).1 h
  unfold digV
  rw [wrap_u8] <;> omega
theorem num_loop : ∀ (r p : List UInt8) (b : Bool) (v : Nat) (fl : List (Nat × Nat)), (fl = [(3, 1)] ∧ p = [] ∨ fl = []) → (∀ c ∈ r, isDig c = true) → (p ++ r).length ≤ 100 → v < 10 ^ p.length →
    rk Tryd.prog pol (Task.at_ 22 0 [false, true, false, true, true] (sv 21 [(0, V.d (D.s (p ++ r))), (3, V.d (D.l b (ws v))), (6, V.it 0)]) fl [Ob.iter (p ++ r) p.length]) =
      some (.d (.l (if r = [] then b else nb (numF v r)) (ws (numF v r))), [])
  | [], p, b, v, fl, hfl, hd, hl, hv => by
    rcases hfl with ⟨rfl, rfl⟩ | rfl
    · rw [List.append_nil, List.length_nil, f22_at43]; simp [numF]
    · rw [List.append_nil, f22_at43_1]; simp [numF]
  | c :: r, p, b, v, fl, hfl, hd, hl, hv => by
    have hc := hd c (by simp)
    have hcl := digV_lt hc
    have hlen : p.length + (r.length + 1) ≤ 100 := by simpa using hl
    have hi : p.length < (p ++ c :: r).length := by simp
    have g : (p ++ c :: r)[p.length]? = some c := by simp
    have hdec := decode_dig _ _ _ g (by have := (isDig_iff c).1 hc; omega)
    have hpl : (p ++ [c]).length = p.length + 1 := by simp
    have hv2 : v * 10 + digV c < 10 ^ (p ++ [c]).length := by rw [hpl, Nat.pow_succ]; omega
    have fb : ∀ k, k < 10 ^ (p ++ [c]).length → Fits k := fun k hk => (mid_lt (Nat.lt_of_lt_of_le hk (Nat.le_of_lt (pow10_lt (by rw [hpl]; omega))))).fits
    have h10 : rk Tryd.prog pol (Task.call 23 [V.d (D.i .u64 10)] []) = some (.d (.l (nb 10) (ws 10)), []) := of_ws 10 (by decide)
    have hm := mul_ws b (nb 10) v 10 (fb v (by omega)) (fits_two (Nat.lt_of_lt_of_le (show (10:Nat) < 2 ^ 4 by decide) (Nat.pow_le_pow_right (by decide) (by decide))))
    have hw : IntKind.u64.wrap (digV c : Int) = (digV c : Int) := by rw [u64_wrap]; omega
    have ho := of_ws (digV c) (by omega)
    have ha := add_ws (nb (v * 10)) (nb (digV c)) (v * 10) (digV c) (fb _ (by omega)) (fb _ (by omega))
    have ih := num_loop r (p ++ [c]) (nb (v * 10 + digV c)) (v * 10 + digV c) [] (Or.inr rfl) (fun c h => hd c (by simp [h])) (by simpa using hl) hv2
    rw [List.append_assoc, List.singleton_append, hpl] at ih
    have hfin : (if r = [] then nb (v * 10 + digV c) else nb (numF (v * 10 + digV c) r)) = nb (numF v (c :: r)) := by
      show _ = nb (numF (v * 10 + digV c) r)
      split
      · rename_i h; subst h; rfl
      · rfl
    rw [hfin, show numF (v * 10 + digV c) r = numF v (c :: r) from rfl] at ih
    rw [if_neg (by simp)]
    rcases hfl with ⟨rfl, rfl⟩ | rfl
    · rw [List.length_nil] at hdec g
      simp only [List.length_nil, List.nil_append] at *
      rw [f22_at43]
      simp only [interp_brB, decide_eq_true hi, if_true, interp_call', h10, Option.bind_some, List.isEmpty_nil, interp_ift', asD_d, asL_l, hm, getI_zero, g, interp_ob', u8_sub hc, hw, ho, ha, hdec, interp_ret, ih]
    · rw [f22_at43_1]
      simp only [interp_brB, decide_eq_true hi, if_true, interp_call', h10, Option.bind_some, List.isEmpty_nil, interp_ift', asD_d, asL_l, hm, getI_nat, g, interp_ob', u8_sub hc, hw, ho, ha, hdec, interp_ret, ih]
theorem number_s (d : List UInt8) (hd : ∀ c ∈ d, isDig c = true) (hl : d.length ≤ 100) : rk Tryd.prog pol (Task.call 22 [V.d (D.s d)] []) = some (.d (.l (nb (numB d)) (ws (numB d))), []) := by
  rw [f22, interp_call_ret]
  have := num_loop d [] true 0 [(3, 1)] (Or.inl ⟨rfl, rfl⟩) hd (by simpa using hl) (by decide)
  rw [List.nil_append, ws_zero] at this
  refine Eq.trans this ?_
  congr 4
  by_cases h : d = []
  · subst h; rfl
  · rw [if_neg h]; rfl
/-! ### The exponent -/
def powB (t : Tx) : Int × Bool :=
  if 3 < (t.ex.dropWhile (· == 48)).length then (0, false)
  else
    let n : Int := if t.en = true then -(numB (t.ex.dropWhile (· == 48)) : Int) else (numB (t.ex.dropWhile (· == 48)) : Int)
    (n, decide (-400 ≤ n) && decide (n ≤ 400))
theorem pow_loop (t : Tx) : ∀ (r p : List UInt8) (v : Nat) , (∀ c ∈ r, isDig c = true) → (p ++ r).length ≤ 3 → v < 10 ^ p.length →
    rk Tryd.prog pol (Task.at_ 21 0 [false, true, false, true, true, true, true] (sv 37 [(1, V.p 0 0), (4, V.d (D.s (p ++ r))), (5, V.d (D.i .i64 (v : Int))), (14, V.it 1)]) [] [Ob.iter (p ++ r) p.length, Ob.cells [V.d (D.b t.neg), V.d (D.s t.whole), V.d (D.s t.part), V.d (D.b t.en), V.d (D.s t.ex)] []]) =
      (let n : Int := if t.en = true then -(numF v r : Int) else (numF v r : Int)
       some (.t [.d (.i .i64 n), .d (.b (decide (-400 ≤ n) && decide (n ≤ 400)))], []))
  | [], p, v, hd, hl, hv => by
    have hv1 : v < 1000 := Nat.lt_of_lt_of_le hv (show 10 ^ p.length ≤ 10 ^ 3 from Nat.pow_le_pow_right (by decide) (by simpa using hl))
    have hw : IntKind.i64.wrap (0 - (v : Int)) = -(v : Int) := by rw [wrap_i64] <;> omega
    have fin : ∀ n : Int, rk Tryd.prog pol (Task.at_ 21 0 [true, true, true, true, true, true] (sv 37 [(5, V.d (D.i IntKind.i64 n))]) [] []) = some (.t [.d (.i .i64 n), .d (.b (decide (-400 ≤ n) && decide (n ≤ 400)))], []) := by
      intro n
      rw [f21_at127]
      by_cases h : n ≥ -400
      · simp [h]
      · simp [h]
    have hlt : ¬ p.length < p.length := by omega
    rw [List.append_nil, f21_at175_1]
    simp only [interp_brB, decide_eq_false hlt, Bool.false_eq_true, if_false, hw, interp_call_ret, fin, numF, List.foldl_nil]
    by_cases h : t.en = true <;> simp [h]
  | c :: r, p, v, hd, hl, hv => by
    have hc := hd c (by simp)
    have hcl := digV_lt hc
    have hi : p.length < (p ++ c :: r).length := by simp
    have g : (p ++ c :: r)[p.length]? = some c := by simp
    have hdec := decode_dig _ _ _ g (by have := (isDig_iff c).1 hc; omega)
    have hpl : (p ++ [c]).length = p.length + 1 := by simp
    have hlen : p.length + (r.length + 1) ≤ 3 := by simpa using hl
    have hv2 : v * 10 + digV c < 10 ^ (p ++ [c]).length := by rw [hpl, Nat.pow_succ]; omega
    have hv1 : v < 1000 := Nat.lt_of_lt_of_le hv (show 10 ^ p.length ≤ 10 ^ 3 from Nat.pow_le_pow_right (by decide) (by omega))
    have ih := pow_loop t r (p ++ [c]) (v * 10 + digV c) (fun c h => hd c (by simp [h])) (by simpa using hl) hv2
    rw [List.append_assoc, List.singleton_append, hpl] at ih
    have hw1 : IntKind.i64.wrap (10 * (v : Int)) = 10 * (v : Int) := by rw [wrap_i64] <;> omega
    have hw2 : IntKind.i64.wrap (digV c : Int) = (digV c : Int) := by rw [wrap_i64] <;> omega
    have hw3 : IntKind.i64.wrap (10 * (v : Int) + (digV c : Int)) = ((v * 10 + digV c : Nat) : Int) := by rw [wrap_i64] <;> omega
    rw [f21_at175_1]
    simp only [interp_brB, decide_eq_true hi, if_true, getI_nat, g, interp_ob', Option.bind_some, u8_sub hc, hw1, hw2, hw3, hdec, interp_call_ret, ih]
    rfl
theorem power_s (t : Tx) (hd : ∀ c ∈ t.ex, isDig c = true) : rk Tryd.prog pol (Task.call 21 [V.d (D.g t.g)] []) = some (.t [.d (.i .i64 (powB t).1), .d (.b (powB t).2)], []) := by
  show rk Tryd.prog pol (Task.call 21 [V.d (D.g [.b t.neg, .s t.whole, .s t.part, .b t.en, .s t.ex])] []) = _
  rw [f21]
  have ht : rk Tryd.prog pol (Task.call 49 [V.d (D.s t.ex), V.d (D.s [48])] []) = some (.d (.s (t.ex.dropWhile (· == 48))), []) := by
    rw [ext_call (g := trimLeftExt) rfl]; rfl
  have hdd : ∀ c ∈ t.ex.dropWhile (· == 48), isDig c = true := fun c h => hd c ((List.dropWhile_sublist _).subset h)
  unfold powB
  generalize t.ex.dropWhile (· == 48) = d at ht hdd ⊢
  by_cases h : 3 < d.length
  · have h' : (d.length : Int) > 3 := by omega
    simp [ht, h, h']
  · have h' : ¬ (d.length : Int) > 3 := by omega
    have hpl := pow_loop t d [] 0 hdd (by simp; omega) (by decide)
    rw [List.nil_append] at hpl
    rw [if_neg h]
    simp only [interp_call', ht, Option.bind_some, List.isEmpty_nil, interp_ift', if_true, asD_d, asS_s, interp_brB, decide_eq_false h', Bool.false_eq_true, if_false, interp_ret]
    rw [show ((0 : Nat) : Int) = 0 from rfl, List.length_nil] at hpl
    rw [hpl]
    rfl
/-! ### Parse -/
def ratB (m : Int) (x : Nat) : Nat × Nat := if 0 < m then (x * 10 ^ m.toNat, 1) else (x, 10 ^ (-m).toNat)
def parseB (s : List UInt8) : Nat × Int :=
  if (splitB s).2 = false then (0, 2)
  else if 60 < (splitB s).1.whole.length + (splitB s).1.part.length then (0, 4)
  else if (powB (splitB s).1).2 = false then (0, 5)
  else
    let r := ratB ((powB (splitB s).1).1 - (splitB s).1.part.length) (numB ((splitB s).1.whole ++ (splitB s).1.part))
    if (bitsN r.1 r.2).2 = false then (0, 5) else (signV (splitB s).1.neg (bitsN r.1 r.2).1, 0)
def TxOk (t : Tx) : Prop := (∀ c ∈ t.whole, isDig c = true) ∧ (∀ c ∈ t.part, isDig c = true) ∧ (∀ c ∈ t.ex, isDig c = true)
theorem take_dig (s : List UInt8) : ∀ c ∈ s.takeWhile isDig, isDig c = true := by
  intro c hc
  induction s with
  | nil => simp at hc
  | cons a s ih =>
    rw [List.takeWhile_cons] at hc
    split at hc
    · rename_i h
      rcases List.mem_cons.1 hc with rfl | hc
      · exact h
      · exact ih hc
    · simp at hc
theorem finB_ok (neg : Bool) (w p s : List UInt8) (hw : ∀ c ∈ w, isDig c = true) (hp : ∀ c ∈ p, isDig c = true) : TxOk (finB neg w p s).1 := by
  unfold finB
  split
  · exact ⟨hw, hp, by simp⟩
  · split
    · exact ⟨hw, hp, by simp⟩
    · split
      · exact ⟨hw, hp, by simp⟩
      · exact ⟨hw, hp, take_dig _⟩
theorem finB_len (neg : Bool) (w p s : List UInt8) : (finB neg w p s).1.whole = w ∧ (finB neg w p s).1.part = p := by
  unfold finB
  split
  · exact ⟨rfl, rfl⟩
  · split
    · exact ⟨rfl, rfl⟩
    · split <;> exact ⟨rfl, rfl⟩
theorem take_len (s : List UInt8) : (s.takeWhile isDig).length ≤ s.length := List.takeWhile_sublist isDig |>.length_le
theorem splitB_len (s : List UInt8) : (splitB s).1.whole.length ≤ s.length ∧ (splitB s).1.part.length ≤ s.length := by
  have h1 := signB_len s
  have h2 := take_len (signB s).2
  have h3 := drop_len (signB s).2
  unfold splitB
  simp only
  split
  · rw [(finB_len _ _ _ _).1, (finB_len _ _ _ _).2]; exact ⟨by omega, by simp⟩
  · rename_i c r e
    rw [e, List.length_cons] at h3
    split
    · split
      · exact ⟨by simp only; omega, by simp⟩
      · have h4 := take_len r
        rw [(finB_len _ _ _ _).1, (finB_len _ _ _ _).2]; exact ⟨by omega, by omega⟩
    · rw [(finB_len _ _ _ _).1, (finB_len _ _ _ _).2]; exact ⟨by omega, by simp⟩
theorem splitB_ok (s : List UInt8) : TxOk (splitB s).1 := by
  unfold splitB
  have h1 := take_dig (signB s).2
  simp only
  split
  · exact finB_ok _ _ _ _ h1 (by simp)
  · split
    · split
      · exact ⟨h1, by simp, by simp⟩
      · exact finB_ok _ _ _ _ h1 (take_dig _)
    · exact finB_ok _ _ _ _ h1 (by simp)
theorem numB_lt (d : List UInt8) (hd : ∀ c ∈ d, isDig c = true) : numB d < 10 ^ d.length := by
  have := numF_lt d 0 0 hd (by decide)
  rwa [Nat.zero_add] at this
theorem ratB_mid {m : Int} {x : Nat} (hx : x < 10 ^ 60) (h1 : -500 ≤ m) (h2 : m ≤ 500) : Mid (ratB m x).1 ∧ Mid (ratB m x).2 ∧ 0 < (ratB m x).2 := by
  unfold ratB
  split
  · refine ⟨?_, mid_one, Nat.one_pos⟩
    refine mid_lt (Nat.lt_trans ?_ (pow10_lt (n := 60 + m.toNat) (by omega)))
    rw [Nat.pow_add]
    exact Nat.mul_lt_mul_of_pos_right hx (Nat.pow_pos (by decide))
  · exact ⟨mid_lt (Nat.lt_trans hx (pow10_lt (by decide))), mid_lt (pow10_lt (by omega)), Nat.pow_pos (by decide)⟩
theorem powB_le {t : Tx} (h : (powB t).2 = true) : -400 ≤ (powB t).1 ∧ (powB t).1 ≤ 400 := by
  unfold powB at h ⊢
  split
  · rename_i h3; rw [if_pos h3] at h; simp at h
  · rename_i h3; rw [if_neg h3] at h
    simpa using h
theorem parse_s (s : List UInt8) (hs : s.length ≤ 1000000) : rk Tryd.prog pol (Task.call 13 [V.d (D.s s)] []) = some (.t [.d (.i .u64 ((parseB s).1 : Nat)), .d (.i .i64 (parseB s).2)], []) := by
  rw [f13]
  have h1 := split_s s hs
  obtain ⟨o1, o2, o3⟩ := splitB_ok s
  obtain ⟨k1, k2⟩ := splitB_len s
  unfold parseB
  generalize splitB s = T at *
  obtain ⟨t, is⟩ := T
  simp only at o1 o2 o3 k1 k2 h1 ⊢
  have ones : ([V.d (D.b t.neg), V.d (D.s t.whole), V.d (D.s t.part), V.d (D.b t.en), V.d (D.s t.ex)].all V.one) = true := rfl
  have g0 : t.g.getD 0 (D.b false) = .b t.neg := rfl
  have g1 : t.g.getD 1 (D.b false) = .s t.whole := rfl
  have g2 : t.g.getD 2 (D.b false) = .s t.part := rfl
  have g3 : t.g.getD 3 (D.b false) = .b t.en := rfl
  have g4 : t.g.getD 4 (D.b false) = .s t.ex := rfl
  have g5 : t.g.length = 5 := rfl
  have hpw := power_s t o3
  rw [show t.g = [.b t.neg, .s t.whole, .s t.part, .b t.en, .s t.ex] from rfl] at hpw
  simp only [interp_call', h1, Option.bind_some, List.isEmpty_nil, interp_ift', if_true, unT_t, len2, List.getD_cons_zero, List.getD_cons_succ, asD_d, asB_b, interp_asG, g5, interp_brB, g0, g1, g2, g3, g4, ones, asS_s]
  cases is with
  | false => simp
  | true =>
    simp only [Bool.not_true, Bool.false_eq_true, if_false]
    by_cases hl : 60 < t.whole.length + t.part.length
    · have hw : IntKind.i64.wrap ((t.whole.length : Int) + (t.part.length : Int)) = (t.whole.length : Int) + (t.part.length : Int) := by rw [wrap_i64] <;> omega
      have h2 : (t.whole.length : Int) + (t.part.length : Int) > 60 := by omega
      rw [hw, decide_eq_true h2, if_pos rfl, if_neg (by decide), if_pos hl]
      rfl
    · have hw : IntKind.i64.wrap ((t.whole.length : Int) + (t.part.length : Int)) = (t.whole.length : Int) + (t.part.length : Int) := by rw [wrap_i64] <;> omega
      have h2 : ¬ (t.whole.length : Int) + (t.part.length : Int) > 60 := by omega
      rw [hw, decide_eq_false h2, if_neg (by decide), if_neg (by decide), if_neg hl]
      simp only [interp_call', hpw, Option.bind_some, List.isEmpty_nil, interp_ift', if_true, unT_t, len2, List.getD_cons_zero, List.getD_cons_succ, asD_d, asB_b, interp_asI, interp_brB]
      have hple := @powB_le t
      generalize powB t = N at hpw hple ⊢
      obtain ⟨n, ok⟩ := N
      cases ok with
      | false => simp
      | true =>
        have hn := hple rfl
        simp only at hn
        have hcat : t.whole.length + t.part.length < 4611686018427387904 := by omega
        have hdig : ∀ c ∈ t.whole ++ t.part, isDig c = true := fun c hc => (List.mem_append.1 hc).elim (o1 c) (o2 c)
        have hnum := number_s (t.whole ++ t.part) hdig (by simp; omega)
        have hx : numB (t.whole ++ t.part) < 10 ^ 60 := Nat.lt_of_lt_of_le (numB_lt _ hdig) (Nat.pow_le_pow_right (by decide) (by simp; omega))
        generalize numB (t.whole ++ t.part) = x at hnum hx ⊢
        have hwm : IntKind.i64.wrap (n - (t.part.length : Int)) = n - (t.part.length : Int) := by rw [wrap_i64] <;> omega
        have hm1 : -500 ≤ n - (t.part.length : Int) := by omega
        have hm2 : n - (t.part.length : Int) ≤ 500 := by omega
        generalize n - (t.part.length : Int) = m at hwm hm1 hm2 ⊢
        obtain ⟨r1, r2, r3⟩ := ratB_mid hx hm1 hm2
        have fin : ∀ b c : Bool, rk Tryd.prog pol (Task.at_ 13 0 [true, true, true, true, true, true, true, true] (sv 68 [(4, V.p 0 0), (7, V.d (D.l b (ws (ratB m x).1))), (8, V.d (D.l c (ws (ratB m x).2)))]) []
            [Ob.cells [V.d (D.b t.neg), V.d (D.s t.whole), V.d (D.s t.part), V.d (D.b t.en), V.d (D.s t.ex)] []]) =
          some (.t [.d (.i .u64 (((if (bitsN (ratB m x).1 (ratB m x).2).2 = false then ((0 : Nat), (5 : Int)) else (signV t.neg (bitsN (ratB m x).1 (ratB m x).2).1, 0))).1 : Nat)), .d (.i .i64 ((if (bitsN (ratB m x).1 (ratB m x).2).2 = false then ((0 : Nat), (5 : Int)) else (signV t.neg (bitsN (ratB m x).1 (ratB m x).2).1, 0))).2)], []) := by
          intro b c
          rw [f13_at511]
          have hb := bitsOf_ws b c _ _ r1 r2 r3
          have hlt := bitsN_lt (ratB m x).1 (ratB m x).2 r3
          have hsg := (sign_or hlt).1
          generalize bitsN (ratB m x).1 (ratB m x).2 = B at hb hlt hsg ⊢
          obtain ⟨v, ok⟩ := B
          simp only at hlt hsg hb ⊢
          simp only [interp_call', hb, Option.bind_some, List.isEmpty_nil, interp_ift', if_true, unT_t, len2, List.getD_cons_zero, List.getD_cons_succ, asD_d, asB_b, interp_asI, interp_brB, hsg, f13_at4095, interp_ret]
          cases ok with
          | false => simp
          | true =>
            cases ht : t.neg <;> simp [signV]
        simp only [Bool.not_true, Bool.false_eq_true, if_false, decide_eq_true hcat, if_true, hnum, of_one, Option.bind_some, List.isEmpty_nil, asD_d, asL_l, interp_ift', hwm, interp_ret]
        by_cases hm : 0 < m
        · have e : m = (m.toNat : Int) := by omega
          have ht := ten_ws m.toNat (by omega)
          rw [← e] at ht
          have hmul := mul_ws (nb x) (nb (10 ^ m.toNat)) x (10 ^ m.toNat) (mid_lt (Nat.lt_trans hx (pow10_lt (by decide)))).fits (mid_lt (pow10_lt (by omega))).fits
          have er : ratB m x = (x * 10 ^ m.toNat, 1) := by rw [ratB, if_pos hm]
          rw [er] at fin ⊢
          have hm' : m > 0 := hm
          simp only [decide_eq_true hm', interp_brB, of_one, ht, hmul, Option.bind_some, List.isEmpty_nil, if_true, asD_d, asL_l, interp_ift', interp_call', interp_ret, fin, Bool.true_eq_false, if_false]
        · have hwn : IntKind.i64.wrap (0 - m) = ((-m).toNat : Int) := by rw [wrap_i64] <;> omega
          have ht := ten_ws (-m).toNat (by omega)
          have er : ratB m x = (x, 10 ^ (-m).toNat) := by rw [ratB, if_neg hm]
          rw [er] at fin ⊢
          have hm' : ¬ m > 0 := hm
          simp only [decide_eq_false hm', hwn, interp_brB, of_one, ht, Option.bind_some, List.isEmpty_nil, if_true, asD_d, asL_l, interp_ift', interp_call', interp_ret, fin, Bool.true_eq_false, Bool.false_eq_true, if_false]
end Go.Dn.Dec
namespace Go.Dn.Dec
open Go.Proofs
set_option exponentiation.threshold 5000000
def ratN (b : Nat) : Nat × Nat :=
  let q := if b / 2 ^ 52 = 0 then b % 2 ^ 52 else b % 2 ^ 52 + 2 ^ 52
  let e : Int := if b / 2 ^ 52 = 0 then -1074 else -1074 + ((b / 2 ^ 52 : Nat) - 1)
  if e < 0 then (q, 2 ^ (-e).toNat) else (q * 2 ^ e.toNat, 1)
def belowN (x y : Nat) (n : Int) : Bool := if n < 0 then decide (x * 10 ^ (-n).toNat < y) else decide (x < y * 10 ^ n.toNat)
def scaledN (x y : Nat) (n : Int) : Nat := if n < 0 then nearN (x * 10 ^ (-n).toNat) y else nearN x (y * 10 ^ n.toNat)
def downN (x y : Nat) : Nat → Int
  | 0 => -400
  | k + 1 => if belowN x y ((k + 1 : Nat) - 400 : Int) = true then downN x y k else ((k + 1 : Nat) - 400 : Int)
def tensN (q : Nat) : List UInt8 := decN (q % 18446744073709551616)
def restN (d : List UInt8) : List UInt8 := if trimRightB 48 (d.drop 1) = [] then [48] else trimRightB 48 (d.drop 1)
def putN (out d : List UInt8) (n : Int) : List UInt8 := out ++ d.take 1 ++ [46] ++ restN d ++ [101] ++ decI n
def showN (out : List UInt8) (x y : Nat) : List UInt8 :=
  let n := downN x y ((((blen x : Int) - blen y) * 30103).tdiv 100000 + 401).toNat
  if 17 < (tensN (scaledN x y (n - 16))).length then putN out (tensN (scaledN x y (n + 1 - 16))) (n + 1) else putN out (tensN (scaledN x y (n - 16))) n
def showB (b : Nat) : List UInt8 :=
  if b / 2 ^ 52 % 2048 = 2047 then []
  else
    let out : List UInt8 := if 2 ^ 63 ≤ b then [45] else []
    if b % 2 ^ 63 = 0 then out ++ [48, 46, 48, 101, 48] else showN out (ratN (b % 2 ^ 63)).1 (ratN (b % 2 ^ 63)).2
theorem decN_ne (n : Nat) : decN n ≠ [] := by
  rw [decN_eq]; split <;> simp
theorem decN_len : ∀ (k n : Nat), 0 < k → n < 10 ^ k → (decN n).length ≤ k
  | 0, _, h, _ => by omega
  | k + 1, n, _, h => by
    rw [decN_eq]
    split
    · simp
    · rename_i h9
      rw [List.length_append, List.length_singleton]
      have hk : 0 < k := by
        rcases Nat.eq_zero_or_pos k with rfl | h'
        · simp at h; omega
        · exact h'
      have := decN_len k (n / 10) hk (by rw [Nat.pow_succ] at h; omega)
      omega
theorem decI_len {n : Int} (h1 : -1000000 < n) (h2 : n < 1000000) : (decI n).length ≤ 8 := by
  unfold decI
  split
  · have := decN_len 7 n.natAbs (by decide) (by simp; omega)
    simp; omega
  · have := decN_len 7 n.toNat (by decide) (by simp; omega)
    omega
theorem trimR_len (c : UInt8) (x : List UInt8) : (trimRightB c x).length ≤ x.length := by
  unfold trimRightB
  rw [List.length_reverse]
  have := (List.dropWhile_sublist (· == c) (l := x.reverse)).length_le
  simpa using this
/-- Numbers that a power of ten may be put to. -/
def Sml (n : Nat) : Prop := n < 2 ^ 1100
theorem Sml.mul {n k : Nat} (h : Sml n) (hk : k ≤ 700) : Mid (n * 10 ^ k) := by
  have h1 : (10 : Nat) ^ k ≤ 16 ^ k := Nat.pow_le_pow_left (by decide) k
  have h2 : (16 : Nat) ^ k = 2 ^ (4 * k) := by rw [show (16 : Nat) = 2 ^ 4 from rfl, ← Nat.pow_mul]
  have h3 : n * 10 ^ k < 2 ^ 1100 * 2 ^ (4 * k) := by
    have : n * 10 ^ k ≤ n * 2 ^ (4 * k) := Nat.mul_le_mul_left _ (h2 ▸ h1)
    exact Nat.lt_of_le_of_lt this (Nat.mul_lt_mul_of_pos_right h (Nat.pow_pos (by decide)))
  rw [← Nat.pow_add] at h3
  exact mid_lt (Nat.lt_of_lt_of_le h3 (Nat.pow_le_pow_right (by decide) (by omega)))
theorem Sml.mid {n : Nat} (h : Sml n) : Mid n := mid_lt (Nat.lt_of_lt_of_le h (Nat.pow_le_pow_right (by decide) (by decide)))
theorem cmpN_neg (x y : Nat) : decide (cmpN x y < 0) = decide (x < y) := by
  unfold cmpN
  by_cases h : x < y
  · simp [h]
  · by_cases h2 : y < x <;> simp [h, h2]
theorem below_ws (b c : Bool) (x y : Nat) (hx : Sml x) (hy : Sml y) (n : Int) (h1 : -700 ≤ n) (h2 : n ≤ 700) :
    rk Tryd.prog pol (Task.call 35 [V.d (D.l b (ws x)), V.d (D.l c (ws y)), V.d (D.i .i64 n)] []) = some (.d (.b (belowN x y n)), []) := by
  rw [f35]
  unfold belowN
  by_cases h : n < 0
  · have hw : IntKind.i64.wrap (0 - n) = ((-n).toNat : Int) := by rw [wrap_i64] <;> omega
    have ht := ten_ws (-n).toNat (by omega)
    have hm := mul_ws b (nb (10 ^ (-n).toNat)) x (10 ^ (-n).toNat) hx.mid.fits (mid_lt (pow10_lt (by omega))).fits
    have hc := cmp_ws (nb (x * 10 ^ (-n).toNat)) c (x * 10 ^ (-n).toNat) y (hx.mul (by omega)).fits hy.mid.fits
    simp only [interp_brB, decide_eq_true h, if_true, hw, interp_call', ht, hm, hc, Option.bind_some, List.isEmpty_nil, interp_ift', asD_d, asL_l, interp_asI, interp_ret, cmpN_neg, if_pos h]
  · have hw : n = (n.toNat : Int) := by omega
    have ht := ten_ws n.toNat (by omega)
    rw [← hw] at ht
    have hm := mul_ws c (nb (10 ^ n.toNat)) y (10 ^ n.toNat) hy.mid.fits (mid_lt (pow10_lt (by omega))).fits
    have hc := cmp_ws b (nb (y * 10 ^ n.toNat)) x (y * 10 ^ n.toNat) hx.mid.fits (hy.mul (by omega)).fits
    simp only [interp_brB, decide_eq_false h, Bool.false_eq_true, if_false, interp_call', ht, hm, hc, Option.bind_some, List.isEmpty_nil, interp_ift', if_true, asD_d, asL_l, interp_asI, interp_ret, cmpN_neg, if_neg h]
theorem scaled_ws (b c : Bool) (x y : Nat) (hx : Sml x) (hy : Sml y) (hy0 : 0 < y) (n : Int) (h1 : -700 ≤ n) (h2 : n ≤ 700) :
    rk Tryd.prog pol (Task.call 37 [V.d (D.l b (ws x)), V.d (D.l c (ws y)), V.d (D.i .i64 n)] []) = some (.d (.l (nb (scaledN x y n)) (ws (scaledN x y n))), []) := by
  rw [f37]
  unfold scaledN
  by_cases h : n < 0
  · have hw : IntKind.i64.wrap (0 - n) = ((-n).toNat : Int) := by rw [wrap_i64] <;> omega
    have ht := ten_ws (-n).toNat (by omega)
    have hm := mul_ws b (nb (10 ^ (-n).toNat)) x (10 ^ (-n).toNat) hx.mid.fits (mid_lt (pow10_lt (by omega))).fits
    have hxm := hx.mul (k := (-n).toNat) (by omega)
    have hc := near_ws (nb (x * 10 ^ (-n).toNat)) c (x * 10 ^ (-n).toNat) y hxm.fits hxm.fits1 hy.mid.fits2 hy0
    simp only [interp_brB, decide_eq_true h, if_true, hw, interp_call', ht, hm, hc, Option.bind_some, List.isEmpty_nil, interp_ift', asD_d, asL_l, interp_ret, if_pos h]
  · have hw : n = (n.toNat : Int) := by omega
    have ht := ten_ws n.toNat (by omega)
    rw [← hw] at ht
    have hm := mul_ws c (nb (10 ^ n.toNat)) y (10 ^ n.toNat) hy.mid.fits (mid_lt (pow10_lt (by omega))).fits
    have hc := near_ws b (nb (y * 10 ^ n.toNat)) x (y * 10 ^ n.toNat) hx.mid.fits hx.mid.fits1 (hy.mul (k := n.toNat) (by omega)).fits2 (Nat.mul_pos hy0 (Nat.pow_pos (by decide)))
    simp only [interp_brB, decide_eq_false h, Bool.false_eq_true, if_false, interp_call', ht, hm, hc, Option.bind_some, List.isEmpty_nil, interp_ift', if_true, asD_d, asL_l, interp_ret, if_neg h]
theorem scaledN_fits (x y : Nat) (hx : Sml x) (hy0 : 0 < y) (n : Int) (h1 : -700 ≤ n) : Fits (scaledN x y n) := by
  have key : ∀ p q, 0 < q → Mid p → Fits (nearN p q) := by
    intro p q hq hp
    refine hp.fits1.le (nearN_le hq ?_)
    rw [Nat.add_mul]
    exact Nat.le_trans (Nat.le_mul_of_pos_right _ hq) (Nat.le_add_right _ _)
  unfold scaledN
  split
  · exact key _ _ hy0 (hx.mul (by omega))
  · exact key _ _ (Nat.mul_pos hy0 (Nat.pow_pos (by decide))) hx.mid
theorem fmt_call (m : Nat) (hm : m < 18446744073709551616) : fmtUintExt [V.d (D.i .u64 (m : Int)), V.d (D.i .i64 10)] [] = some (.d (.s (decN m)), []) := by
  have h0 : (m : Int) < 18446744073709551616 := by omega
  simp [fmtUintExt, h0]
theorem tens_ws (b : Bool) (x : Nat) (hx : Fits x) : rk Tryd.prog pol (Task.call 36 [V.d (D.l b (ws x))] []) = some (.d (.s (tensN x)), []) := by
  rw [f36]
  have h1 := low_ws b x hx
  have h2 : rk Tryd.prog pol (Task.call 63 [V.d (D.i .u64 ((x % 18446744073709551616 : Nat) : Int)), V.d (D.i .i64 10)] []) = some (.d (.s (tensN x)), []) := by
    rw [ext_call (g := fmtUintExt) rfl]
    exact fmt_call _ (Nat.mod_lt _ (by decide))
  simp only [interp_call', h1, h2, Option.bind_some, List.isEmpty_nil, interp_ift', if_true, asD_d, asS_s, interp_asI, interp_ret]
theorem and_mod {b k : Nat} (hb : b < 18446744073709551616) (c : Int) (hc : (BitVec.ofInt 64 c).toNat = 2 ^ k - 1) : (BitVec.ofInt 64 (b : Int) &&& BitVec.ofInt 64 c).toNat = b % 2 ^ k := by
  rw [BitVec.toNat_and, hc, Nat.and_two_pow_sub_one_eq_mod, BitVec.ofInt_natCast, BitVec.toNat_ofNat, Nat.mod_eq_of_lt (show b < 2 ^ 64 from hb)]
theorem ratio_ws (b : Nat) (hb : b < 2 ^ 63) (hk : b / 2 ^ 52 < 2047) : rk Tryd.prog pol (Task.call 33 [V.d (D.i .u64 (b : Int))] []) = some (.t [.d (.l (nb (ratN b).1) (ws (ratN b).1)), .d (.l (nb (ratN b).2) (ws (ratN b).2))], []) := by
  have h1 : (b : Int).fdiv 4503599627370496 = ((b / 2 ^ 52 : Nat) : Int) := fdiv_nat b 4503599627370496
  have h2 : (BitVec.ofInt IntKind.u64.bits ((b / 2 ^ 52 : Nat) : Int) &&& BitVec.ofInt IntKind.u64.bits 2047).toNat = b / 2 ^ 52 := by
    have := and_mod (b := b / 2 ^ 52) (k := 11) (by omega) 2047 (by decide)
    rw [Nat.mod_eq_of_lt (by omega)] at this
    exact this
  have h3 : (BitVec.ofInt IntKind.u64.bits (b : Int) &&& BitVec.ofInt IntKind.u64.bits 4503599627370495).toNat = b % 2 ^ 52 := and_mod (b := b) (k := 52) (by omega) 4503599627370495 (by decide)
  have hm : b % 2 ^ 52 < 2 ^ 52 := Nat.mod_lt _ (by decide)
  have w1 : IntKind.u64.wrap ((b / 2 ^ 52 : Nat) : Int) = ((b / 2 ^ 52 : Nat) : Int) := by rw [u64_wrap]; omega
  have w2 : IntKind.i64.wrap ((b / 2 ^ 52 : Nat) : Int) = ((b / 2 ^ 52 : Nat) : Int) := by rw [wrap_i64] <;> omega
  have w3 : IntKind.u64.wrap ((b % 2 ^ 52 : Nat) : Int) = ((b % 2 ^ 52 : Nat) : Int) := by rw [u64_wrap]; omega
  have w4 : (BitVec.ofInt IntKind.u64.bits ((b % 2 ^ 52 : Nat) : Int) ||| BitVec.ofInt IntKind.u64.bits 4503599627370496).toNat = b % 2 ^ 52 + 2 ^ 52 := by
    have := or_nat (a := b % 2 ^ 52) (b := 4503599627370496) (by omega) (by decide)
    have e := or_add (c := b % 2 ^ 52) (a := 1) (k := 52) hm
    rw [Nat.one_mul] at e
    exact Eq.trans this e
  have w5 : IntKind.u64.wrap ((b % 2 ^ 52 + 2 ^ 52 : Nat) : Int) = ((b % 2 ^ 52 + 2 ^ 52 : Nat) : Int) := by rw [u64_wrap]; omega
  have w6 : IntKind.i64.wrap (((b / 2 ^ 52 : Nat) : Int) - 1) = ((b / 2 ^ 52 : Nat) : Int) - 1 := by rw [wrap_i64] <;> omega
  have w7 : IntKind.i64.wrap (-1074 + (((b / 2 ^ 52 : Nat) : Int) - 1)) = -1074 + (((b / 2 ^ 52 : Nat) : Int) - 1) := by rw [wrap_i64] <;> omega
  have main : ∀ (q : Nat) (e : Int), q < 2 ^ 53 → -1074 ≤ e → e ≤ 971 → rk Tryd.prog pol (Task.at_ 33 0 [true, true, true] (sv 34 [(4, V.d (D.i IntKind.u64 (q : Int))), (5, V.d (D.i IntKind.i64 e))]) [] []) =
      some (.t [.d (.l (nb (if e < 0 then (q, 2 ^ (-e).toNat) else (q * 2 ^ e.toNat, 1)).1) (ws (if e < 0 then (q, 2 ^ (-e).toNat) else (q * 2 ^ e.toNat, 1)).1)), .d (.l (nb (if e < 0 then (q, 2 ^ (-e).toNat) else (q * 2 ^ e.toNat, 1)).2) (ws (if e < 0 then (q, 2 ^ (-e).toNat) else (q * 2 ^ e.toNat, 1)).2))], []) := by
    intro q e hq he1 he2
    rw [f33_at15]
    have hof := of_ws q (by omega)
    by_cases he : e < 0
    · have hw0 : IntKind.i64.wrap (0 - e) = ((-e).toNat : Int) := by rw [wrap_i64] <;> omega
      have hs := shl_ws (nb 1) 1 (-e).toNat fits_one (by omega)
      rw [Nat.one_mul] at hs
      simp only [interp_brB, decide_eq_true he, if_true, hw0, interp_call', hof, of_one, hs, Option.bind_some, List.isEmpty_nil, interp_ift', asD_d, asL_l, interp_ret, if_pos he]
    · have hw0 : e = (e.toNat : Int) := by omega
      have hs := shl_ws (nb q) q e.toNat (mid_u64 (by omega)).fits (by omega)
      rw [← hw0] at hs
      simp only [interp_brB, decide_eq_false he, Bool.false_eq_true, if_false, interp_call', hof, of_one, hs, Option.bind_some, List.isEmpty_nil, interp_ift', if_true, asD_d, asL_l, interp_ret, if_neg he]
  rw [f33, h1, h2, h3, w1, w2, w3, w4, w5, w6, w7]
  unfold ratN
  by_cases h0 : b / 2 ^ 52 = 0
  · have : ¬ ((b / 2 ^ 52 : Nat) : Int) > 0 := by omega
    have hmn := main (b % 2 ^ 52) (-1074) (by omega) (by decide) (by decide)
    rw [interp_brB, decide_eq_false this, if_neg (by decide), interp_call_ret, hmn]
    simp only [if_pos h0]
  · have : ((b / 2 ^ 52 : Nat) : Int) > 0 := by omega
    have hmn := main (b % 2 ^ 52 + 2 ^ 52) (-1074 + (((b / 2 ^ 52 : Nat) : Int) - 1)) (by omega) (by omega) (by omega)
    rw [interp_brB, decide_eq_true this, if_pos rfl, interp_call_ret, hmn]
    simp only [if_neg h0]
theorem ratN_sml (b : Nat) (hb : b < 2 ^ 63) (hk : b / 2 ^ 52 < 2047) : Sml (ratN b).1 ∧ Sml (ratN b).2 ∧ 0 < (ratN b).2 := by
  have hm : b % 2 ^ 52 < 2 ^ 52 := Nat.mod_lt _ (by decide)
  have main : ∀ (q : Nat) (e : Int), q < 2 ^ 53 → -1074 ≤ e → e ≤ 971 → Sml (if e < 0 then (q, 2 ^ (-e).toNat) else (q * 2 ^ e.toNat, 1)).1 ∧ Sml (if e < 0 then (q, 2 ^ (-e).toNat) else (q * 2 ^ e.toNat, 1)).2 ∧ 0 < (if e < 0 then (q, 2 ^ (-e).toNat) else (q * 2 ^ e.toNat, 1)).2 := by
    intro q e hq he1 he2
    split
    · exact ⟨Nat.lt_of_lt_of_le hq (Nat.pow_le_pow_right (by decide) (by decide)), Nat.pow_lt_pow_right (by decide) (by omega), Nat.pow_pos (by decide)⟩
    · refine ⟨?_, Nat.one_lt_two_pow (by decide), Nat.one_pos⟩
      have : q * 2 ^ e.toNat < 2 ^ 53 * 2 ^ e.toNat := Nat.mul_lt_mul_of_pos_right hq (Nat.pow_pos (by decide))
      rw [← Nat.pow_add] at this
      exact Nat.lt_of_lt_of_le this (Nat.pow_le_pow_right (by decide) (by omega))
  unfold ratN
  by_cases h0 : b / 2 ^ 52 = 0
  · simp only [if_pos h0]
    exact main _ _ (by omega) (by decide) (by decide)
  · simp only [if_neg h0]
    exact main _ _ (by omega) (by omega) (by omega)
/-- What is told of a number, when its power of ten is found. -/
def tellN (out : List UInt8) (x y : Nat) (n : Int) : List UInt8 :=
  if 17 < (tensN (scaledN x y (n - 16))).length then putN out (tensN (scaledN x y (n + 1 - 16))) (n + 1) else putN out (tensN (scaledN x y (n - 16))) n
theorem tens_len (q : Nat) : (tensN q).length ≤ 20 ∧ 1 ≤ (tensN q).length := by
  have h1 := decN_len 20 (q % 18446744073709551616) (by decide) (Nat.lt_trans (Nat.mod_lt _ (by decide)) (by decide))
  have h2 : tensN q ≠ [] := decN_ne _
  exact ⟨h1, by cases h : tensN q with
    | nil => exact absurd h h2
    | cons c r => simp⟩
theorem put_run (out d : List UInt8) (n : Int) (ho : out.length ≤ 1000) (hd : d.length ≤ 20 ∧ 1 ≤ d.length) (h1 : -1000000 < n) (h2 : n < 1000000) :
    rk Tryd.prog pol (Task.at_ 15 0 [true, true, true, true, true, true, true, true, true, true] (sv 76 [(3, V.d (D.s out)), (6, V.d (D.i IntKind.i64 n)), (7, V.d (D.s d))]) [] []) = some (.d (.s (putN out d n)), []) := by
  rw [f15_at2047]
  have hle : ((0 : Int) ≤ 1 ∧ (1 : Int) ≤ ((d.length : Nat) : Int)) := ⟨by decide, by omega⟩
  have e : List.take (d.length - 1) (List.drop 1 d) = d.drop 1 := by
    rw [List.take_of_length_le]; simp
  have ht : rk Tryd.prog pol (Task.call 38 [V.d (D.s (d.drop 1)), V.d (D.s [48])] []) = some (.d (.s (trimRightB 48 (d.drop 1))), []) := by
    rw [ext_call (g := trimRightExt) rfl]
    have hh : (48 : UInt8).toNat < 128 ∧ (d.drop 1).length ≤ 1000000 := ⟨by decide, by rw [List.length_drop]; omega⟩
    simp only [trimRightExt, if_pos hh]
  have hit : rk Tryd.prog pol (Task.call 39 [V.d (D.i .i64 n)] []) = some (.d (.s (decI n)), []) := by
    rw [ext_call (g := itoaExt) rfl]
    have hh : -1000000 < n ∧ n < 1000000 := ⟨h1, h2⟩
    simp only [itoaExt, if_pos hh]
  have hdi := decI_len h1 h2
  have htr := trimR_len 48 (d.drop 1)
  rw [List.length_drop] at htr
  have hfin : ∀ r : List UInt8, r.length ≤ 20 → rk Tryd.prog pol (Task.at_ 15 0 [true, true, true, true, true, true, true, true, true, true, true, true] (sv 76 [(3, V.d (D.s out)), (6, V.d (D.i IntKind.i64 n)), (7, V.d (D.s d)), (8, V.d (D.s r))]) [] []) = some (.d (.s (out ++ d.take 1 ++ [46] ++ r ++ [101] ++ decI n)), []) := by
    intro r hr
    rw [f15_at8191]
    have l1 : out.length + (List.take 1 d).length < 4611686018427387904 := by simp; omega
    have l2 : (out ++ List.take 1 d).length + 1 < 4611686018427387904 := by simp; omega
    have l3 : (out ++ List.take 1 d ++ [46]).length + r.length < 4611686018427387904 := by simp; omega
    have l4 : (out ++ List.take 1 d ++ [46] ++ r).length + 1 < 4611686018427387904 := by simp; omega
    have l5 : (out ++ List.take 1 d ++ [46] ++ r ++ [101]).length + (decI n).length < 4611686018427387904 := by simp; omega
    simp only [interp_ift', decide_eq_true hle, if_true, decide_eq_true l1, decide_eq_true l2, decide_eq_true l3, decide_eq_true l4, decide_eq_true l5, interp_call', hit, Option.bind_some, List.isEmpty_nil, asD_d, asS_s, interp_ret, List.drop_zero]
  simp only [interp_ift', decide_eq_true hle, if_true, e, interp_call', ht, Option.bind_some, List.isEmpty_nil, asD_d, asS_s, interp_brB, beq_nil]
  unfold putN restN
  by_cases h0 : trimRightB 48 (d.drop 1) = []
  · simp only [h0, decide_true, if_true, hfin [48] (by decide), Option.bind_some, interp_ret]
  · simp only [h0, decide_false, Bool.false_eq_true, if_false, hfin _ (show (trimRightB 48 (d.drop 1)).length ≤ 20 by omega), Option.bind_some, interp_ret]
theorem show_loop (out : List UInt8) (x y : Nat) (hx : Sml x) (hy : Sml y) (hy0 : 0 < y) (ho : out.length ≤ 1000) (b c : Bool) (hlow : belowN x y (-400) = false) : ∀ k : Nat, k ≤ 800 →
    rk Tryd.prog pol (Task.at_ 15 0 [false, false, true, true, true, true, true, true, true] (sv 76 [(3, V.d (D.s out)), (4, V.d (D.l b (ws x))), (5, V.d (D.l c (ws y))), (6, V.d (D.i .i64 ((k : Int) - 400)))]) [] []) = some (.d (.s (tellN out x y (downN x y k))), []) := by
  have fin : ∀ n : Int, -400 ≤ n → n ≤ 400 → belowN x y n = false → rk Tryd.prog pol (Task.at_ 15 0 [false, false, true, true, true, true, true, true, true] (sv 76 [(3, V.d (D.s out)), (4, V.d (D.l b (ws x))), (5, V.d (D.l c (ws y))), (6, V.d (D.i .i64 n))]) [] []) = some (.d (.s (tellN out x y n)), []) := by
    intro n h1 h2 hb
    rw [f15_at639]
    have hbl := below_ws b c x y hx hy n (by omega) (by omega)
    rw [hb] at hbl
    have w1 : IntKind.i64.wrap (n - 17) = n - 17 := by rw [wrap_i64] <;> omega
    have w2 : IntKind.i64.wrap (n - 17 + 1) = n - 16 := by rw [wrap_i64] <;> omega
    have w3 : IntKind.i64.wrap (n + 1) = n + 1 := by rw [wrap_i64] <;> omega
    have w4 : IntKind.i64.wrap (n + 1 - 17) = n + 1 - 17 := by rw [wrap_i64] <;> omega
    have w5 : IntKind.i64.wrap (n + 1 - 17 + 1) = n + 1 - 16 := by rw [wrap_i64] <;> omega
    have s1 := scaled_ws b c x y hx hy hy0 (n - 16) (by omega) (by omega)
    have s2 := scaled_ws b c x y hx hy hy0 (n + 1 - 16) (by omega) (by omega)
    have t1 := tens_ws (nb (scaledN x y (n - 16))) (scaledN x y (n - 16)) (scaledN_fits x y hx hy0 _ (by omega))
    have t2 := tens_ws (nb (scaledN x y (n + 1 - 16))) (scaledN x y (n + 1 - 16)) (scaledN_fits x y hx hy0 _ (by omega))
    have p1 := put_run out (tensN (scaledN x y (n - 16))) n ho (tens_len _) (by omega) (by omega)
    have p2 := put_run out (tensN (scaledN x y (n + 1 - 16))) (n + 1) ho (tens_len _) (by omega) (by omega)
    unfold tellN
    simp only [interp_call', hbl, Option.bind_some, List.isEmpty_nil, interp_ift', if_true, asD_d, asB_b, interp_brB, Bool.false_eq_true, if_false, w1, w2, w3, w4, w5, s1, s2, t1, t2, asL_l, asS_s, p1, p2, interp_ret]
    by_cases h17 : 17 < (tensN (scaledN x y (n - 16))).length
    · have : ((tensN (scaledN x y (n - 16))).length : Int) > 17 := by omega
      simp only [decide_eq_true this, if_true, if_pos h17]
    · have : ¬ ((tensN (scaledN x y (n - 16))).length : Int) > 17 := by omega
      simp only [decide_eq_false this, Bool.false_eq_true, if_false, if_neg h17]
  intro k
  induction k with
  | zero =>
    intro _
    exact fin (-400) (by decide) (by decide) hlow
  | succ k ih =>
    intro hk
    have e : (((k + 1 : Nat) : Int) - 400) - 1 = (k : Int) - 400 := by omega
    cases hb : belowN x y (((k + 1 : Nat) : Int) - 400) with
    | false =>
      rw [fin _ (by omega) (by omega) hb]
      rw [downN, hb, if_neg (by decide)]
    | true =>
      rw [f15_at639]
      have hbl := below_ws b c x y hx hy (((k + 1 : Nat) : Int) - 400) (by omega) (by omega)
      rw [hb] at hbl
      have w1 : IntKind.i64.wrap ((((k + 1 : Nat) : Int) - 400) - 1) = (k : Int) - 400 := by rw [wrap_i64] <;> omega
      simp only [interp_call', hbl, Option.bind_some, List.isEmpty_nil, interp_ift', if_true, asD_d, asB_b, interp_brB, w1, ih (by omega), interp_ret]
      rw [downN, hb, if_pos rfl]
end Go.Dn.Dec
namespace Go.Dn.Dec
open Go.Proofs
set_option exponentiation.threshold 5000000
theorem and_mod' {b k : Nat} (hb : b < 18446744073709551616) (v : BitVec 64) (hc : v.toNat = 2 ^ k - 1) : (BitVec.ofInt 64 (b : Int) &&& v).toNat = b % 2 ^ k := by
  rw [BitVec.toNat_and, hc, Nat.and_two_pow_sub_one_eq_mod, BitVec.ofInt_natCast, BitVec.toNat_ofNat, Nat.mod_eq_of_lt (show b < 2 ^ 64 from hb)]
theorem and_top {b : Nat} (hb : b < 18446744073709551616) : (BitVec.ofInt IntKind.u64.bits (b : Int) &&& BitVec.ofInt IntKind.u64.bits 9223372036854775808).toNat = if 2 ^ 63 ≤ b then 2 ^ 63 else 0 := by
  show (BitVec.ofInt 64 (b : Int) &&& BitVec.ofInt 64 9223372036854775808).toNat = _
  have e : (BitVec.ofInt 64 9223372036854775808).toNat = 2 ^ 63 := by decide
  rw [BitVec.toNat_and, e, BitVec.ofInt_natCast, BitVec.toNat_ofNat, Nat.mod_eq_of_lt (show b < 2 ^ 64 from hb)]
  apply Nat.eq_of_testBit_eq
  intro i
  rw [Nat.testBit_and, Nat.testBit_two_pow]
  by_cases hi : 63 = i
  · subst hi
    rw [Nat.testBit_eq_decide_div_mod_eq]
    by_cases h : 2 ^ 63 ≤ b
    · have : b / 2 ^ 63 % 2 = 1 := by omega
      rw [if_pos h, this]; decide
    · have : b / 2 ^ 63 % 2 = 0 := by omega
      rw [if_neg h, this]; simp
  · by_cases h : 2 ^ 63 ≤ b
    · rw [if_pos h, Nat.testBit_two_pow]; simp [hi]
    · rw [if_neg h]; simp [hi]
theorem ratN_pos (b : Nat) (h : b ≠ 0) : 0 < (ratN b).1 := by
  have main : ∀ (q : Nat) (e : Int), 0 < q → 0 < (if e < 0 then (q, 2 ^ (-e).toNat) else (q * 2 ^ e.toNat, 1)).1 := by
    intro q e hq
    split
    · exact hq
    · exact Nat.mul_pos hq (Nat.pow_pos (by decide))
  unfold ratN
  by_cases h0 : b / 2 ^ 52 = 0
  · simp only [if_pos h0]
    exact main _ _ (by omega)
  · simp only [if_neg h0]
    exact main _ _ (by omega)
theorem low400 {x y : Nat} (hx : 0 < x) (hy : Sml y) : belowN x y (-400) = false := by
  have h1 : (2 : Nat) ^ 1100 ≤ 2 ^ (3 * 400) := Nat.pow_le_pow_right (by decide) (by decide)
  have h2 : (2 : Nat) ^ (3 * 400) = 8 ^ 400 := by rw [Nat.pow_mul]
  have h3 : (8 : Nat) ^ 400 ≤ 10 ^ 400 := Nat.pow_le_pow_left (by decide) 400
  have h4 : 10 ^ 400 ≤ x * 10 ^ 400 := Nat.le_mul_of_pos_left _ hx
  have : y < 2 ^ 1100 := hy
  have h5 : y < 10 ^ 400 := by omega
  have h6 : (-(-400 : Int)).toNat = 400 := by decide
  have h7 : (-400 : Int) < 0 := by decide
  unfold belowN
  rw [if_pos h7, h6]
  exact decide_eq_false (by omega)
theorem Sml.blen {n : Nat} (h : Sml n) : blen n ≤ 1100 := (blen_le_iff _ _).2 h
theorem tdiv_bounds (a : Int) (h1 : -1100 ≤ a) (h2 : a ≤ 1100) : -340 ≤ (a * 30103).tdiv 100000 ∧ (a * 30103).tdiv 100000 ≤ 340 := by
  rcases Int.le_total 0 a with h | h
  · rw [Int.tdiv_eq_ediv_of_nonneg (by omega)]; omega
  · have e : a * 30103 = -((-a) * 30103) := by omega
    rw [e, Int.neg_tdiv, Int.tdiv_eq_ediv_of_nonneg (by omega)]; omega
theorem show_s (b : Nat) (hb : b < 18446744073709551616) : rk Tryd.prog pol (Task.call 15 [V.d (D.i .u64 (b : Int))] []) = some (.d (.s (showB b)), []) := by
  have h1 : (b : Int).fdiv 4503599627370496 = ((b / 2 ^ 52 : Nat) : Int) := fdiv_nat b 4503599627370496
  have h2 : (BitVec.ofInt IntKind.u64.bits ((b / 2 ^ 52 : Nat) : Int) &&& BitVec.ofInt IntKind.u64.bits 2047).toNat = b / 2 ^ 52 % 2048 :=
    and_mod (b := b / 2 ^ 52) (k := 11) (by omega) 2047 (by decide)
  have w1 : IntKind.u64.wrap ((b / 2 ^ 52 % 2048 : Nat) : Int) = ((b / 2 ^ 52 % 2048 : Nat) : Int) := by rw [u64_wrap]; omega
  have h3 : (BitVec.ofInt IntKind.u64.bits (b : Int) &&& ~~~BitVec.ofInt IntKind.u64.bits 9223372036854775808).toNat = b % 2 ^ 63 := and_mod' hb _ (by decide)
  have w3 : IntKind.u64.wrap ((b % 2 ^ 63 : Nat) : Int) = ((b % 2 ^ 63 : Nat) : Int) := by rw [u64_wrap]; omega
  have main : b / 2 ^ 52 % 2048 ≠ 2047 → ∀ out : List UInt8, out.length ≤ 1000 → rk Tryd.prog pol (Task.at_ 15 0 [true, true, true, true] (sv 76 [(0, V.d (D.i IntKind.u64 ((b % 2 ^ 63 : Nat) : Int))), (3, V.d (D.s out))]) [] []) =
      some (.d (.s (if b % 2 ^ 63 = 0 then out ++ [48, 46, 48, 101, 48] else showN out (ratN (b % 2 ^ 63)).1 (ratN (b % 2 ^ 63)).2)), []) := by
    intro hk out ho
    rw [f15_at31]
    by_cases h0 : b % 2 ^ 63 = 0
    · have hl : out.length + 5 < 4611686018427387904 := by omega
      rw [h0]
      simp only [interp_brB, Int.natCast_zero, beq_self_eq_true, if_true, interp_ift', decide_eq_true hl, interp_ret]
    · have hk2 : b % 2 ^ 63 / 2 ^ 52 < 2047 := by omega
      have hr := ratio_ws (b % 2 ^ 63) (by omega) hk2
      obtain ⟨sx, sy, y0⟩ := ratN_sml (b % 2 ^ 63) (by omega) hk2
      have x0 := ratN_pos (b % 2 ^ 63) h0
      have hne : ((((b % 2 ^ 63 : Nat) : Int)) == 0) = false := beq_eq_false_iff_ne.2 (by omega)
      generalize (b % 2 ^ 63 : Nat) = c at h0 hr sx sy y0 x0 hne ⊢
      have b1 := bits_ws (nb (ratN c).1) (ratN c).1 sx.mid.fits
      have b2 := bits_ws (nb (ratN c).2) (ratN c).2 sy.mid.fits
      have l1 := sx.blen
      have l2 := sy.blen
      have hd := tdiv_bounds ((blen (ratN c).1 : Int) - blen (ratN c).2) (by omega) (by omega)
      have hL := show_loop out (ratN c).1 (ratN c).2 sx sy y0 ho (nb (ratN c).1) (nb (ratN c).2) (low400 x0 sy)
      rw [if_neg h0]
      unfold showN
      generalize (ratN c).1 = x at *
      generalize (ratN c).2 = y at *
      have v1 : IntKind.i64.wrap ((blen x : Int) - blen y) = (blen x : Int) - blen y := by rw [wrap_i64] <;> omega
      have v2 : IntKind.i64.wrap (((blen x : Int) - blen y) * 30103) = ((blen x : Int) - blen y) * 30103 := by rw [wrap_i64] <;> omega
      obtain ⟨z, hz⟩ : ∃ z, ((((blen x : Int) - blen y) * 30103).tdiv 100000) = z := ⟨_, rfl⟩
      rw [hz] at hd ⊢
      have v3 : IntKind.i64.wrap z = z := by rw [wrap_i64] <;> omega
      have v4 : IntKind.i64.wrap (z + 1) = (((z + 401).toNat : Nat) : Int) - 400 := by rw [wrap_i64] <;> omega
      have hL' := hL (z + 401).toNat (by omega)
      simp only [interp_brB, hne, Bool.false_eq_true, if_false, interp_call', hr, Option.bind_some, List.isEmpty_nil, interp_ift', if_true, unT_t, len2, List.getD_cons_zero, List.getD_cons_succ, asD_d, asL_l, b1, b2, interp_asI, v1, v2, hz, v3, v4, hL', interp_ret]
      rfl
  rw [f15, h1, h2, w1, h3, w3, and_top hb]
  unfold showB
  by_cases hk : b / 2 ^ 52 % 2048 = 2047
  · rw [hk]
    simp
  · have hne : ((((b / 2 ^ 52 % 2048 : Nat) : Int)) == 2047) = false := beq_eq_false_iff_ne.2 (by omega)
    rw [if_neg hk, interp_brB, hne, if_neg (by decide)]
    by_cases ht : 2 ^ 63 ≤ b
    · have hm := main hk [45] (by decide)
      have hw : ((IntKind.u64.wrap ((2 ^ 63 : Nat) : Int)) != 0) = true := by decide
      simp only [if_pos ht, hw, interp_brB, if_true, interp_call_ret, hm]
    · have hm := main hk [] (by decide)
      have e : b % 2 ^ 63 = b := Nat.mod_eq_of_lt (by omega)
      have hw : ((IntKind.u64.wrap ((0 : Nat) : Int)) != 0) = false := by decide
      rw [e] at hm
      simp only [if_neg ht, hw, interp_brB, Bool.false_eq_true, if_false, interp_call_ret, hm, e]
end Go.Dn.Dec
namespace Go.Dn.Dec
open Go.Proofs
set_option exponentiation.threshold 5000000
theorem begun_1 : parseB [48, 46, 49] = (4591870180066957722, 0) := by kernel_rfl
theorem begun_2 : parseB [46] = (0, 2) := by kernel_rfl
theorem begun_3 : showB 4607182418800017408 = [49, 46, 48, 101, 48] := by kernel_rfl
theorem begun_4 : intN 1 = 4607182418800017408 := by kernel_rfl
theorem begun_s : rk Tryd.prog pol (Task.call 12 [] []) = some (.d (.b true), []) := by
  rw [f12]
  have h1 := parse_s [48, 46, 49] (by decide)
  have h2 := parse_s [46] (by decide)
  have h3 : rk Tryd.prog pol (Task.call 15 [V.d (D.i IntKind.u64 4607182418800017408)] []) = _ := show_s 4607182418800017408 (by decide)
  have h4 := int_run 1 (by decide) (by decide)
  rw [begun_1] at h1
  rw [begun_2] at h2
  rw [begun_3] at h3
  rw [begun_4] at h4
  have e1 : (((4591870180066957722 : Nat) : Int) == 4591870180066957722) = true := by decide
  have e2 : (((4607182418800017408 : Nat) : Int) == 4607182418800017408) = true := by decide
  have e3 : (([49, 46, 48, 101, 48] : List UInt8) == [49, 46, 48, 101, 48]) = true := by decide
  simp only [interp_call', h1, h2, h3, h4, Option.bind_some, List.isEmpty_nil, interp_ift', if_true, unT_t, len2, List.getD_cons_zero, List.getD_cons_succ, asD_d, interp_asI, interp_brB, asS_s, e1, e2, e3, beq_self_eq_true, interp_ret]
def fTexts : List (List UInt8) := [[48], [45, 48], [49], [46, 53], [49, 46], [], [45], [101, 53], [49, 101], [49, 101, 43], [49, 101, 52, 48, 48],
                          [49, 101, 52, 48, 49], [49, 101, 45, 52, 48, 49], [49, 46, 55, 57, 55, 54, 57, 51, 49, 51, 52, 56, 54, 50, 51, 49, 53, 55, 101, 51, 48, 56],
                          [49, 46, 55, 57, 55, 54, 57, 51, 49, 51, 52, 56, 54, 50, 51, 49, 53, 57, 101, 51, 48, 56], [52, 46, 57, 101, 45, 51, 50, 52], [50, 46, 52, 101, 45, 51, 50, 52],
                          [50, 46, 53, 101, 45, 51, 50, 52], [50, 46, 50, 50, 53, 48, 55, 51, 56, 53, 56, 53, 48, 55, 50, 48, 49, 52, 101, 45, 51, 48, 56],
                          [50, 46, 50, 50, 53, 48, 55, 51, 56, 53, 56, 53, 48, 55, 50, 48, 49, 49, 101, 45, 51, 48, 56], [57, 48, 48, 55, 49, 57, 57, 50, 53, 52, 55, 52, 48, 57, 57, 51],
                          [57, 48, 48, 55, 49, 57, 57, 50, 53, 52, 55, 52, 48, 57, 57, 50, 46, 57, 57, 57, 57], [49, 32], [48, 120, 49], [49, 101, 51, 48, 57], [49, 46, 101, 53],
                          [48, 48, 48, 48, 49, 101, 45, 52, 48, 48], [53, 101, 45, 51, 50, 52]]
def fBits : List Nat := [0, 9223372036854775808, 4607182418800017408, 4602678819172646912, 0, 0, 0, 0, 0, 0, 0, 0, 0, 9218868437227405311, 0, 1, 0, 1, 4503599627370496, 4503599627370495, 4845873199050653696, 4845873199050653696, 0, 0, 0, 0, 0, 1]
def fErrs : List Int := [0, 0, 0, 0, 2, 2, 2, 2, 2, 2, 5, 5, 5, 0, 5, 0, 0, 0, 0, 0, 0, 0, 2, 2, 5, 2, 0, 0]
theorem forms_all : fTexts.map parseB = fBits.zip fErrs := by kernel_rfl
theorem forms_a : showB 0 = [48, 46, 48, 101, 48] := by kernel_rfl
theorem forms_b : showB 9223372036854775808 = [45, 48, 46, 48, 101, 48] := by kernel_rfl
theorem forms_c : showB 1 = [52, 46, 57, 52, 48, 54, 53, 54, 52, 53, 56, 52, 49, 50, 52, 54, 53, 52, 101, 45, 51, 50, 52] := by kernel_rfl
theorem forms_d : showB 9218868437227405311 = [49, 46, 55, 57, 55, 54, 57, 51, 49, 51, 52, 56, 54, 50, 51, 49, 53, 55, 101, 51, 48, 56] := by kernel_rfl
theorem forms_e : showB 9218868437227405312 = [] := by kernel_rfl
theorem forms_f : intN (-9223372036854775808) = 14114281232179134464 := by kernel_rfl
theorem forms_loop : ∀ d i : Nat, i + d = 28 →
    rk Tryd.prog pol (Task.at_ 9 0 [false, true, false, true, true, true, true, true] (sv 62 [(1, V.d (D.l true (fTexts.map D.s))), (2, V.d (D.l true (fBits.map fun n : Nat => D.i .u64 (n : Int)))), (3, V.d (D.l true (fErrs.map (D.i .i64)))), (4, V.d (D.i IntKind.i64 (i : Int)))]) [] []) = some (.d (.b true), [])
  | 0, i, h => by
    rw [f9_at351]
    have hi : i = 28 := by omega
    subst hi
    have hlt : ¬ ((28 : Nat) : Int) < (((fTexts.map D.s).length : Nat) : Int) := by decide
    have s1 : rk Tryd.prog pol (Task.call 15 [V.d (D.i IntKind.u64 0)] []) = _ := show_s 0 (by decide)
    have s2 : rk Tryd.prog pol (Task.call 15 [V.d (D.i IntKind.u64 9223372036854775808)] []) = _ := show_s 9223372036854775808 (by decide)
    have s3 : rk Tryd.prog pol (Task.call 15 [V.d (D.i IntKind.u64 1)] []) = _ := show_s 1 (by decide)
    have s4 : rk Tryd.prog pol (Task.call 15 [V.d (D.i IntKind.u64 9218868437227405311)] []) = _ := show_s 9218868437227405311 (by decide)
    have s5 : rk Tryd.prog pol (Task.call 15 [V.d (D.i IntKind.u64 9218868437227405312)] []) = _ := show_s 9218868437227405312 (by decide)
    have s6 := int_run (-9223372036854775808) (by decide) (by decide)
    rw [forms_a] at s1
    rw [forms_b] at s2
    rw [forms_c] at s3
    rw [forms_d] at s4
    rw [forms_e] at s5
    rw [forms_f] at s6
    have e6 : (((14114281232179134464 : Nat) : Int) == 14114281232179134464) = true := by decide
    simp only [interp_brB, decide_eq_false hlt, Bool.false_eq_true, if_false, interp_call', s1, s2, s3, s4, s5, s6, Option.bind_some, List.isEmpty_nil, interp_ift', if_true, asD_d, asS_s, beq_self_eq_true, interp_asI, e6, interp_ret]
  | d + 1, i, h => by
    have ih := forms_loop d (i + 1) (by omega)
    rw [f9_at351]
    have hlen : fTexts.length = 28 := by decide
    have hlen2 : fBits.length = 28 := by decide
    have hlen3 : fErrs.length = 28 := by decide
    have hlt : (i : Int) < (((fTexts.map D.s).length : Nat) : Int) := by rw [List.length_map, hlen]; omega
    have ht := List.getElem?_eq_getElem (l := fTexts) (i := i) (by omega)
    have hb := List.getElem?_eq_getElem (l := fBits) (i := i) (by omega)
    have he := List.getElem?_eq_getElem (l := fErrs) (i := i) (by omega)
    have key : parseB fTexts[i] = (fBits[i], fErrs[i]) := by
      have := congrArg (·[i]?) forms_all
      simp only [List.getElem?_map, ht, Option.map_some] at this
      have h2 := this.symm
      rw [List.getElem?_zip_eq_some] at h2
      rw [hb, he] at h2
      exact (Prod.ext (Option.some.inj h2.1) (Option.some.inj h2.2)).symm
    have hp := parse_s fTexts[i] (by
      have : ∀ t ∈ fTexts, t.length ≤ 1000000 := by decide
      exact this _ (List.getElem_mem _))
    rw [key] at hp
    generalize fTexts[i] = t at ht hp
    generalize fBits[i] = b at hb hp
    generalize fErrs[i] = e at he hp
    have g1 : (fTexts.map D.s)[i]? = some (D.s t) := by rw [List.getElem?_map, ht]; rfl
    have g2 : (fBits.map fun n : Nat => D.i .u64 (n : Int))[i]? = some (D.i .u64 (b : Int)) := by rw [List.getElem?_map, hb]; rfl
    have g3 : (fErrs.map (D.i .i64))[i]? = some (D.i .i64 e) := by rw [List.getElem?_map, he]; rfl
    have hw : IntKind.i64.wrap ((i : Int) + 1) = ((i + 1 : Nat) : Int) := by rw [wrap_i64] <;> omega
    have b1 : ((e : Int) != e) = false := by simp
    have b2 : ((b : Int) != b) = false := by simp
    simp only [interp_brB, decide_eq_true hlt, if_true, interp_ob', getI_nat, g1, g2, g3, Option.bind_some, interp_ift', width_s, width_i, beq_self_eq_true, Int.toNat_natCast, cells_s, cells_i, List.getElem?_cons_zero, asS_s, interp_call', hp, List.isEmpty_nil, unT_t, len2, List.getD_cons_zero, List.getD_cons_succ, asD_d, interp_asI, b1, b2, Bool.false_eq_true, if_false, f9_at29279, hw, ih, interp_ret]
theorem f9' : rk Tryd.prog pol (Task.call 9 [] []) = interp (rk Tryd.prog pol) (
Tr.call (Task.call 12 [] []) fun (o_0 : Out) =>
  ift o_0.snd.isEmpty
    (asD o_0.fst fun (d_1 : D) =>
      asB d_1 fun (b_2 : Bool) =>
        brB (!b_2) (Tr.ret (V.d (D.b false), []))
          (Tr.call
            (Task.at_ 9 0 [false, true, false, true, true, true, true, true]
              (sv 62 [(1, V.d (D.l true (fTexts.map D.s))), (2, V.d (D.l true (fBits.map fun n : Nat => D.i .u64 (n : Int)))), (3, V.d (D.l true (fErrs.map (D.i .i64)))), (4, V.d (D.i IntKind.i64 ((0 : Nat) : Int)))]) [] [])
            Tr.ret))) :=
  rk_of (by kernel_rfl)
theorem forms_s : rk Tryd.prog pol (Task.call 9 [] []) = some (.d (.b true), []) := by
  rw [f9']
  have h := forms_loop 28 0 rfl
  have e0 : (!true) = false := rfl
  simp only [interp_call', begun_s, Option.bind_some, List.isEmpty_nil, interp_ift', if_true, asD_d, asB_b, interp_brB, e0, Bool.false_eq_true, if_false, interp_ret]
  rw [h]; rfl
end Go.Dn.Dec
