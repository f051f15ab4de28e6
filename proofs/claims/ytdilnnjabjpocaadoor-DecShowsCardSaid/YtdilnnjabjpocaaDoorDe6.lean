/- dec: what is shown is parsed as it was. -/
import Derived.Test.YtdilnnjabjpocaaDoorDe5
namespace Go.Dn.Dec
open Go.Proofs
set_option exponentiation.threshold 5000000
/-! ### The distance between neighbours -/
theorem gap_up (c : Nat) : gr c < 9007199254740992 * (gr (c + 1) - gr c) := by
  obtain ⟨k, q, h1, h2, rfl⟩ := gr_split c
  rw [gr_of k q (by omega) h2, gr_next k q h1 h2, Nat.add_mul, Nat.one_mul, Nat.add_sub_cancel_left]
  exact Nat.mul_lt_mul_of_pos_right h1 (Nat.pow_pos (by decide))
theorem gap_low (c : Nat) (h : 0 < c) : gr c ≤ 9007199254740992 * (gr c - gr (c - 1)) := by
  obtain ⟨k, q, h1, h2, rfl⟩ := gr_split c
  by_cases hb : k = 0 ∨ 2 ^ 52 < q
  · have e : k * 2 ^ 52 + q - 1 = k * 2 ^ 52 + (q - 1) := by omega
    have hs : q * 2 ^ k - (q - 1) * 2 ^ k = 2 ^ k := by rw [← Nat.sub_mul, show q - (q - 1) = 1 by omega, Nat.one_mul]
    rw [e, gr_of k q (by omega) h2, gr_of k (q - 1) (by omega) (by omega), hs]
    exact Nat.mul_le_mul_right _ (Nat.le_of_lt h1)
  · have hk : 0 < k := by omega
    have hq : q = 2 ^ 52 := by omega
    obtain ⟨r, hr⟩ : ∃ r, r + 1 = 2 ^ 53 := ⟨2 ^ 53 - 1, by omega⟩
    have e : k * 2 ^ 52 + q - 1 = (k - 1) * 2 ^ 52 + r := by omega
    rw [e, gr_of k q (by omega) h2, gr_of (k - 1) r (by omega) (by omega), pow_pred hk]
    have h3 : q * (2 ^ (k - 1) * 2) = (r + 1) * 2 ^ (k - 1) := by rw [hr, hq, Nat.mul_comm (2 ^ (k - 1)) 2, ← Nat.mul_assoc]
    rw [h3, Nat.add_mul, Nat.one_mul, Nat.add_sub_cancel_left, ← Nat.succ_mul, Nat.succ_eq_add_one, hr]
    exact Nat.le_refl _
theorem nd_1 {x y P Q u g T : Nat} (hy : 0 < y) (hx : x * u = g * y) (h : T * (y * P) ≤ x * Q) : T * (P * u) ≤ g * Q := by
  have := Nat.mul_le_mul_right u h
  have a1 : T * (y * P) * u = T * (P * u) * y := by ac_rfl
  have a2 : x * Q * u = g * Q * y := by rw [ac2, hx, ac2]
  rw [a1, a2] at this
  exact Nat.le_of_mul_le_mul_right this hy
theorem nd_2 {x y P Q u g q2 : Nat} (hy : 0 < y) (hx : x * u = g * y) (h : q2 * (y * P) ≤ 2 * (x * Q) + y * P) : q2 * P * u ≤ 2 * (g * Q) + P * u := by
  have := Nat.mul_le_mul_right u h
  have a1 : q2 * (y * P) * u = q2 * P * u * y := by ac_rfl
  have a2 : (2 * (x * Q) + y * P) * u = (2 * (g * Q) + P * u) * y := by
    rw [Nat.add_mul, Nat.add_mul, Nat.mul_assoc 2, ac2 x Q u, hx, ac2 g y Q, ← Nat.mul_assoc 2, show y * P * u = P * u * y by ac_rfl]
  rw [a1, a2] at this
  exact Nat.le_of_mul_le_mul_right this hy
theorem nd_3 {x y P Q u g q2 : Nat} (hy : 0 < y) (hx : x * u = g * y) (h : 2 * (x * Q) ≤ q2 * (y * P) + y * P) : 2 * (g * Q) ≤ q2 * P * u + P * u := by
  have := Nat.mul_le_mul_right u h
  have a1 : 2 * (x * Q) * u = 2 * (g * Q) * y := by
    rw [Nat.mul_assoc 2, ac2 x Q u, hx, ac2 g y Q, ← Nat.mul_assoc 2]
  have a2 : (q2 * (y * P) + y * P) * u = (q2 * P * u + P * u) * y := by
    rw [Nat.add_mul, Nat.add_mul, show q2 * (y * P) * u = q2 * P * u * y by ac_rfl, show y * P * u = P * u * y by ac_rfl]
  rw [a1, a2] at this
  exact Nat.le_of_mul_le_mul_right this hy
theorem nd_add (a b c Q : Nat) (h : a + b = c) : a * Q + b * Q = c * Q := by rw [← Nat.add_mul, h]
/-- A number that 17 digits tell. -/
theorem near_digits {x y c q P Q : Nat} (hy : 0 < y) (hQ : 0 < Q) (hc : 0 < c) (hx : x * U = gr c * y) (h16 : 10000000000000000 * (y * P) ≤ x * Q)
    (h1 : 2 * q * (y * P) ≤ 2 * (x * Q) + y * P) (h2 : 2 * (x * Q) ≤ 2 * q * (y * P) + y * P) : Near (q * P) Q c := by
  have m1 := nd_1 hy hx h16
  have m2 := nd_2 hy hx h1
  have m3 := nd_3 hy hx h2
  rw [Nat.mul_assoc 2 q P] at m2 m3
  refine near_in ?_ (Or.inr ?_)
  · have g := gap_up c
    have gl := gr_lt c
    have e : mid c * Q = 2 * (gr c * Q) + (gr (c + 1) - gr c) * Q := by
      rw [← Nat.mul_assoc]; exact (nd_add _ _ _ Q (by unfold mid; omega)).symm
    have k1 := Nat.mul_lt_mul_of_pos_right g hQ
    rw [Nat.mul_assoc] at k1
    rw [e]
    generalize (gr (c + 1) - gr c) * Q = G at *
    generalize gr c * Q = A at *
    generalize P * U = B at *
    generalize 2 * (q * P) * U = D at *
    omega
  · have g := gap_low c hc
    have gl := gr_lt (c - 1)
    rw [Nat.sub_add_cancel hc] at gl
    have e : mid (c - 1) * Q + (gr c - gr (c - 1)) * Q = 2 * (gr c * Q) := by
      rw [← Nat.mul_assoc]; exact nd_add _ _ _ Q (by unfold mid; rw [Nat.sub_add_cancel hc]; omega)
    have k1 := Nat.mul_le_mul_right Q g
    rw [Nat.mul_assoc] at k1
    have k2 : 0 < (gr c - gr (c - 1)) * Q := Nat.mul_pos (by omega) hQ
    generalize (gr c - gr (c - 1)) * Q = G at *
    generalize mid (c - 1) * Q = M at *
    generalize gr c * Q = A at *
    generalize P * U = B at *
    generalize 2 * (q * P) * U = D at *
    omega
/-! ### The power of ten -/
theorem downN_spec (x y : Nat) (h0 : belowN x y (-400) = false) : ∀ k : Nat, belowN x y (downN x y k) = false ∧ -400 ≤ downN x y k ∧ downN x y k ≤ (k : Int) - 400 ∧ (downN x y k = (k : Int) - 400 ∨ belowN x y (downN x y k + 1) = true)
  | 0 => ⟨h0, by simp [downN], by simp [downN], Or.inl (by simp [downN])⟩
  | k + 1 => by
    rw [downN]
    split
    · rename_i h
      obtain ⟨h1, h2, h3, h4⟩ := downN_spec x y h0 k
      refine ⟨h1, h2, by omega, Or.inr ?_⟩
      rcases h4 with h4 | h4
      · rw [h4, show (k : Int) - 400 + 1 = ((k + 1 : Nat) : Int) - 400 by omega]; exact h
      · exact h4
    · rename_i h
      exact ⟨by simpa using h, by omega, by omega, Or.inl rfl⟩
theorem chk_up : ((List.range 1101).all fun d => decide (2 ^ (d + 1) ≤ 10 ^ (d * 30103 / 100000 + 2))) = true := by decide +kernel
theorem chk_dn : ((List.range 1101).all fun d => decide (10 ^ (d * 30103 / 100000) * 2 ≤ 2 ^ d * 100)) = true := by decide +kernel
theorem start_high (x y : Nat) (hy0 : 0 < y) (hx : Sml x) (hy : Sml y) : belowN x y ((((blen x : Int) - blen y) * 30103).tdiv 100000 + 2) = true := by
  have lx := hx.blen
  have ly := hy.blen
  have bx := lt_blen x
  have by_ := blen_le y (by omega)
  have py := blen_pos (n := y) (by omega)
  rcases Int.le_total 0 ((blen x : Int) - blen y) with h | h
  · obtain ⟨d, hd⟩ : ∃ d : Nat, (blen x : Int) - blen y = d := ⟨((blen x : Int) - blen y).toNat, by omega⟩
    rw [hd]
    have e : ((d : Int) * 30103).tdiv 100000 + 2 = ((d * 30103 / 100000 + 2 : Nat) : Int) := by
      have : ((d : Int) * 30103).tdiv 100000 = ((d * 30103 / 100000 : Nat) : Int) := tdiv_nat (d * 30103) 100000
      rw [this]; omega
    have hc := List.all_eq_true.1 chk_up d (List.mem_range.2 (by omega))
    rw [decide_eq_true_eq] at hc
    rw [e]
    unfold belowN
    rw [if_neg (by omega), Int.toNat_natCast]
    generalize d * 30103 / 100000 + 2 = t at hc
    have e2 : 2 ^ blen x = 2 ^ (blen y - 1) * 2 ^ (d + 1) := by rw [← Nat.pow_add]; congr 1; omega
    have h3 := Nat.mul_le_mul by_ hc
    exact decide_eq_true (by omega)
  · obtain ⟨d, hd⟩ : ∃ d : Nat, (blen x : Int) - blen y = -(d : Int) := ⟨((blen y : Int) - blen x).toNat, by omega⟩
    rw [hd]
    have e : (-(d : Int) * 30103).tdiv 100000 + 2 = 2 - ((d * 30103 / 100000 : Nat) : Int) := by
      have : ((d : Int) * 30103).tdiv 100000 = ((d * 30103 / 100000 : Nat) : Int) := tdiv_nat (d * 30103) 100000
      rw [Int.neg_mul, Int.neg_tdiv, this]; omega
    rw [e]
    have hc := List.all_eq_true.1 chk_dn d (List.mem_range.2 (by omega))
    rw [decide_eq_true_eq] at hc
    generalize d * 30103 / 100000 = t at hc
    -- x * 2^d < 2 * y
    have e2 : 2 ^ blen x * 2 ^ d = 2 * 2 ^ (blen y - 1) := by rw [← Nat.pow_add, Nat.mul_comm 2, ← Nat.pow_succ]; congr 1; omega
    have h3 : x * 2 ^ d < 2 * y := by
      have := Nat.mul_lt_mul_of_pos_right bx (show 0 < 2 ^ d from Nat.pow_pos (by decide))
      omega
    have h4 : x * (10 ^ t * 2) ≤ x * (2 ^ d * 100) := Nat.mul_le_mul_left _ hc
    have h5 : x * (2 ^ d * 100) = x * 2 ^ d * 100 := by rw [Nat.mul_assoc]
    have h6 : x * (10 ^ t * 2) = x * 10 ^ t * 2 := by rw [Nat.mul_assoc]
    unfold belowN
    by_cases ht : 2 - (t : Int) < 0
    · rw [if_pos ht, show (-(2 - (t : Int))).toNat = t - 2 by omega]
      have e3 : 10 ^ t = 10 ^ (t - 2) * 100 := by rw [show (100 : Nat) = 10 ^ 2 from rfl, ← Nat.pow_add]; congr 1; omega
      have e4 : x * 10 ^ t = x * 10 ^ (t - 2) * 100 := by rw [e3, Nat.mul_assoc]
      exact decide_eq_true (by omega)
    · rw [if_neg ht]
      have ht2 : t ≤ 2 := by omega
      have e3 : 100 = 10 ^ (2 - (t : Int)).toNat * 10 ^ t := by rw [← Nat.pow_add, show (2 - (t : Int)).toNat + t = 2 by omega]
      have e4 : y * 10 ^ (2 - (t : Int)).toNat * 10 ^ t = y * 100 := by rw [Nat.mul_assoc, ← e3]
      have hp : 0 < 10 ^ t := Nat.pow_pos (by decide)
      refine decide_eq_true (Nat.lt_of_mul_lt_mul_right (a := 10 ^ t) ?_)
      omega
/-- The exponent that is found. -/
theorem down_found (x y : Nat) (hx0 : 0 < x) (hy0 : 0 < y) (hx : Sml x) (hy : Sml y) : ∃ n : Int, downN x y ((((blen x : Int) - blen y) * 30103).tdiv 100000 + 401).toNat = n ∧ belowN x y n = false ∧ belowN x y (n + 1) = true ∧ -400 ≤ n ∧ n ≤ 350 := by
  have lx := hx.blen
  have ly := hy.blen
  have hb := tdiv_bounds ((blen x : Int) - blen y) (by omega) (by omega)
  have hs := start_high x y hy0 hx hy
  obtain ⟨h1, h2, h3, h4⟩ := downN_spec x y (low400 hx0 hy) ((((blen x : Int) - blen y) * 30103).tdiv 100000 + 401).toNat
  generalize (((blen x : Int) - blen y) * 30103).tdiv 100000 = z at *
  refine ⟨_, rfl, h1, ?_, h2, by omega⟩
  rcases h4 with h4 | h4
  · rw [h4, show (((z + 401).toNat : Nat) : Int) - 400 + 1 = z + 2 by omega]; exact hs
  · exact h4
/-- The powers by which a number is scaled. -/
def upP (n : Int) : Nat := 10 ^ n.toNat
def upQ (n : Int) : Nat := 10 ^ (-n).toNat
theorem upP_pos (n : Int) : 0 < upP n := Nat.pow_pos (by decide)
theorem upQ_pos (n : Int) : 0 < upQ n := Nat.pow_pos (by decide)
theorem scaledN_eq (x y : Nat) (n : Int) : scaledN x y n = nearN (x * upQ n) (y * upP n) := by
  unfold scaledN upP upQ
  split
  · rename_i h; rw [show n.toNat = 0 by omega, Nat.pow_zero, Nat.mul_one]
  · rename_i h; rw [show (-n).toNat = 0 by omega, Nat.pow_zero, Nat.mul_one]
theorem belowN_eq (x y : Nat) (n : Int) : belowN x y n = decide (x * upQ n < y * upP n) := by
  unfold belowN upP upQ
  split
  · rename_i h; rw [show n.toNat = 0 by omega, Nat.pow_zero, Nat.mul_one]
  · rename_i h; rw [show (-n).toNat = 0 by omega, Nat.pow_zero, Nat.mul_one]
/-- One power, told by another. -/
theorem up_shift (n m : Int) (k : Nat) (h : n = m + k) : upP n * upQ m = 10 ^ k * (upP m * upQ n) := by
  unfold upP upQ
  rw [← Nat.pow_add, ← Nat.pow_add, ← Nat.pow_add]; congr 1; omega
theorem below_shift (x y : Nat) (n m : Int) (k : Nat) (h : n = m + k) : belowN x y n = decide (x * upQ m < y * upP m * 10 ^ k) := by
  rw [belowN_eq]
  have e := up_shift n m k h
  congr 1
  apply propext
  have a1 : x * upQ n * (upP m * upQ m) = x * upQ m * (upP m * upQ n) := by ac_rfl
  have a2 : y * upP n * (upP m * upQ m) = y * upP m * 10 ^ k * (upP m * upQ n) := by
    have : y * upP n * (upP m * upQ m) = y * upP m * (upP n * upQ m) := by ac_rfl
    rw [this, e, Nat.mul_assoc (y * upP m)]
  have p1 : 0 < upP m * upQ m := Nat.mul_pos (upP_pos _) (upQ_pos _)
  have p2 : 0 < upP m * upQ n := Nat.mul_pos (upP_pos _) (upQ_pos _)
  constructor
  · intro h
    have := Nat.mul_lt_mul_of_pos_right h p1
    rw [a1, a2] at this
    exact Nat.lt_of_mul_lt_mul_right this
  · intro h
    have := Nat.mul_lt_mul_of_pos_right h p2
    rw [← a1, ← a2] at this
    exact Nat.lt_of_mul_lt_mul_right this
end Go.Dn.Dec
namespace Go.Dn.Dec
open Go.Proofs
set_option exponentiation.threshold 5000000
theorem decN_len_eq : ∀ (k n : Nat), 10 ^ k ≤ n → n < 10 ^ (k + 1) → (decN n).length = k + 1
  | 0, n, _, h => by rw [decN_eq, if_pos (by simpa using h)]; rfl
  | k + 1, n, h1, h2 => by
    have h9 : ¬ n < 10 := by
      have : 10 ^ 1 ≤ 10 ^ (k + 1) := Nat.pow_le_pow_right (by decide) (by omega)
      omega
    rw [decN_eq, if_neg h9, List.length_append, decN_len_eq k (n / 10) (by rw [Nat.pow_succ] at h1; omega) (by rw [Nat.pow_succ] at h2; omega)]
    rfl
theorem trim_split (x : List UInt8) : ∃ j, x = trimRightB 48 x ++ List.replicate j 48 := by
  refine ⟨(x.reverse.takeWhile (· == 48)).length, ?_⟩
  have h1 : x.reverse.takeWhile (· == 48) = List.replicate (x.reverse.takeWhile (· == 48)).length 48 := by
    refine List.eq_replicate_iff.2 ⟨rfl, fun c hc => ?_⟩
    have := List.all_takeWhile (l := x.reverse) (p := (· == (48 : UInt8)))
    rw [List.all_eq_true] at this
    exact beq_iff_eq.1 (this c hc)
  have h2 : x.reverse = x.reverse.takeWhile (· == 48) ++ x.reverse.dropWhile (· == 48) := (List.takeWhile_append_dropWhile).symm
  have h3 := congrArg List.reverse h2
  rw [List.reverse_reverse, List.reverse_append] at h3
  unfold trimRightB
  generalize (x.reverse.takeWhile (· == 48)).length = j at h1
  rw [h1, List.reverse_replicate] at h3
  exact h3
theorem rest_text (d : List UInt8) (hl : d.length = 17) (hd : ∀ c ∈ d, isDig c = true) : restN d ≠ [] ∧ (∀ c ∈ restN d, isDig c = true) ∧ (restN d).length ≤ 16 ∧ numB (d.take 1 ++ restN d) * 10 ^ 16 = numB d * 10 ^ (restN d).length := by
  obtain ⟨j, hj⟩ := trim_split (d.drop 1)
  have e : d = d.take 1 ++ d.drop 1 := (List.take_append_drop 1 d).symm
  have lr : (d.drop 1).length = 16 := by rw [List.length_drop, hl]
  have hdr : ∀ c ∈ d.drop 1, isDig c = true := fun c hc => hd c (List.mem_of_mem_drop hc)
  unfold restN
  generalize trimRightB 48 (d.drop 1) = t at *
  have ht : ∀ c ∈ t, isDig c = true := fun c hc => hdr c (by rw [hj]; exact List.mem_append_left _ hc)
  have lj : t.length + j = 16 := by
    have := congrArg List.length hj
    rw [lr, List.length_append, List.length_replicate] at this
    exact this.symm
  have hn : numB d = numB (d.take 1 ++ t) * 10 ^ j := by
    have e2 : numB d = numB (d.take 1 ++ t ++ List.replicate j 48) := by rw [List.append_assoc, ← hj, ← e]
    rw [e2, numB_append, numB_zeros, List.length_replicate]; omega
  by_cases h0 : t = []
  · rw [if_pos h0]
    subst h0
    have hj16 : j = 16 := by simpa using lj
    refine ⟨by decide, by decide, by decide, ?_⟩
    rw [hn, hj16, List.append_nil, numB_append]
    show (numB (d.take 1) * 10 + 0) * 10 ^ 16 = numB (d.take 1) * 10 ^ 16 * 10
    omega
  · rw [if_neg h0]
    refine ⟨h0, ht, by omega, ?_⟩
    rw [hn, Nat.mul_assoc, ← Nat.pow_add, Nat.add_comm j, lj]
theorem parse_put {sg : List UInt8} {neg : Bool} (hsg : Sign sg neg) (q c : Nat) (n : Int) (h1 : 10 ^ 16 ≤ q) (h2 : q < 10 ^ 17) (n1 : -400 ≤ n) (n2 : n ≤ 400) (hc : Near (q * upP (n - 16)) (upQ (n - 16)) c) : parseB (putN sg (decN q) n) = outB neg c := by
  have hl := decN_len_eq 16 q h1 h2
  obtain ⟨r1, r2, r3, r4⟩ := rest_text (decN q) hl (decN_dig q)
  have hw : ∀ c ∈ (decN q).take 1, isDig c = true := fun c hc => decN_dig q c (List.mem_of_mem_take hc)
  have hne : (decN q).take 1 ≠ [] := fun h => by
    have := congrArg List.length h
    rw [List.length_take, hl] at this
    simp at this
  have lw : ((decN q).take 1).length ≤ 1 := by rw [List.length_take]; omega
  rw [numB_decN] at r4
  unfold putN
  generalize restN (decN q) = r at *
  generalize (decN q).take 1 = w at *
  have e : sg ++ w ++ [46] ++ r ++ [101] ++ decI n = sg ++ (w ++ ((46 :: r) ++ (101 :: decI n))) := by simp
  have lw1 : w.length + r.length ≤ 60 := by omega
  obtain ⟨v, hv, hp⟩ := parse_gen hsg hw hne (Or.inr ⟨rfl, r1, r2⟩) (expo_dec n1 n2) lw1
  have hvc : v = c := near_eq hv hc (Nat.pow_pos (by decide)) (upQ_pos _) (by
    have : numB (w ++ r) * 10 ^ 16 * (10 ^ (n - (r.length : Int)).toNat * upQ (n - 16)) = q * 10 ^ r.length * (10 ^ (n - (r.length : Int)).toNat * upQ (n - 16)) := by rw [r4]
    have e1 : q * 10 ^ r.length * (10 ^ (n - (r.length : Int)).toNat * upQ (n - 16)) = q * upP (n - 16) * 10 ^ (-(n - (r.length : Int))).toNat * 10 ^ 16 := by
      unfold upP upQ
      rw [Nat.mul_assoc q, Nat.mul_assoc q, Nat.mul_assoc q, ← Nat.pow_add, ← Nat.pow_add, ← Nat.pow_add, ← Nat.pow_add]
      congr 2; omega
    have e2 : numB (w ++ r) * 10 ^ 16 * (10 ^ (n - (r.length : Int)).toNat * upQ (n - 16)) = numB (w ++ r) * 10 ^ (n - (r.length : Int)).toNat * upQ (n - 16) * 10 ^ 16 := by
      generalize 10 ^ (n - (r.length : Int)).toNat = a
      generalize 10 ^ 16 = b
      ac_rfl
    rw [e1, e2] at this
    exact Nat.eq_of_mul_eq_mul_right (Nat.pow_pos (by decide)) this)
  rw [e, hp, hvc]
/-! ### Show's 17 digits -/
theorem ratN_gr (c : Nat) (hk : c / 2 ^ 52 < 2047) : (ratN c).1 * U = gr c * (ratN c).2 := by
  unfold ratN
  by_cases h0 : c / 2 ^ 52 = 0
  · have h1 : c < 2 ^ 52 := by omega
    simp only [if_pos h0]
    rw [if_pos (by decide)]
    simp only
    rw [Nat.mod_eq_of_lt h1, gr, if_pos h1]
    rfl
  · simp only [if_neg h0]
    have hq : 2 ^ 52 ≤ c % 2 ^ 52 + 2 ^ 52 ∧ c % 2 ^ 52 + 2 ^ 52 < 2 ^ 53 := by omega
    have hg : gr c = (c % 2 ^ 52 + 2 ^ 52) * 2 ^ (c / 2 ^ 52 - 1) := by rw [gr, if_neg (by omega)]
    obtain ⟨k, hk2⟩ : ∃ k, c / 2 ^ 52 = k + 1 := ⟨c / 2 ^ 52 - 1, by omega⟩
    rw [hg, hk2, Nat.add_sub_cancel]
    generalize c % 2 ^ 52 + 2 ^ 52 = q
    have e : (-1074 : Int) + (((k + 1 : Nat) : Int) - 1) = (k : Int) - 1074 := by omega
    rw [e]
    by_cases h : (k : Int) - 1074 < 0
    · rw [if_pos h]
      simp only
      rw [show (-((k : Int) - 1074)).toNat = 1074 - k by omega, U_split (k := k) (by omega), ← Nat.mul_assoc, ac2]
    · rw [if_neg h]
      simp only
      rw [show ((k : Int) - 1074).toNat = k - 1074 by omega, Nat.mul_one, Nat.mul_assoc, ← U_join (by omega)]
theorem shown_bounds {A B q : Nat} (hB : 0 < B) (hq : nearN A B = q) (h1 : 10 ^ 16 * B ≤ A) (h2 : A < 10 ^ 17 * B) : 10 ^ 16 ≤ q ∧ q ≤ 10 ^ 17 ∧ 2 * q * B ≤ 2 * A + B ∧ 2 * A ≤ 2 * q * B + B := by
  have hu := nearN_up A B hB
  have hl := nearN_low A B hB
  rw [hq] at hu hl
  have e1 : (2 * q + 1) * B = 2 * q * B + B := by rw [Nat.add_mul, Nat.one_mul]
  rw [e1] at hu
  refine ⟨?_, ?_, by omega, by omega⟩
  · rcases Nat.lt_or_ge q (10 ^ 16) with h | h
    · exfalso
      have : (2 * q + 1) * B ≤ (2 * 10 ^ 16 - 1) * B := Nat.mul_le_mul_right _ (by omega)
      have e2 : (2 * 10 ^ 16 - 1) * B + B = 2 * (10 ^ 16 * B) := by rw [← Nat.succ_mul, ← Nat.mul_assoc]
      omega
    · exact h
  · rcases Nat.lt_or_ge (10 ^ 17) q with h | h
    · exfalso
      have : 2 * (10 ^ 17 + 1) * B ≤ 2 * q * B := Nat.mul_le_mul_right _ (by omega)
      have e2 : 2 * (10 ^ 17 + 1) * B = 2 * (10 ^ 17 * B) + 2 * B := by rw [Nat.mul_assoc, Nat.add_mul, Nat.one_mul, Nat.mul_add]
      omega
    · exact h
theorem lit2 (a b x s : Nat) : a * (b * x) * s = a * (b * (x * s)) := by rw [Nat.mul_assoc, Nat.mul_assoc]
theorem lit1 (a x s : Nat) : a * x * s = a * (x * s) := Nat.mul_assoc _ _ _
theorem lit3 (a x b s : Nat) : a * x * (b * s) = a * (x * b * s) := by rw [Nat.mul_assoc, Nat.mul_assoc]
theorem shown_next {A B A' B' s s' : Nat} (hB : 0 < B') (hs : 0 < s) (hs' : 0 < s') (ha : A * s' = A' * s) (hb : B' * s = B * 10 * s') (h1 : 2 * 10 ^ 17 * B ≤ 2 * A + B) (h2 : A < 10 ^ 17 * B) : nearN A' B' = 10 ^ 16 := by
  have hu := nearN_up A' B' hB
  have hl := nearN_low A' B' hB
  have e1 : (2 * nearN A' B' + 1) * B' = 2 * nearN A' B' * B' + B' := by rw [Nat.add_mul, Nat.one_mul]
  rw [e1] at hu
  generalize nearN A' B' = q at *
  have k1 : 10 * (2 * 10 ^ 16 * B') ≤ 10 * (2 * A') + B' := by
    have := Nat.mul_le_mul_right (10 * s') h1
    have a1 : 2 * 10 ^ 17 * B * (10 * s') = 10 * (2 * 10 ^ 16 * B') * s := by
      rw [lit2, hb, lit3]
      generalize B * 10 * s' = z
      omega
    have a2 : (2 * A + B) * (10 * s') = (10 * (2 * A') + B') * s := by
      rw [Nat.add_mul, Nat.add_mul, lit2, hb, lit3, ← Nat.mul_assoc B, ← ha, Nat.mul_right_comm A 10 s']
      generalize B * 10 * s' = z
      generalize A * s' = w
      omega
    rw [a1, a2] at this
    exact Nat.le_of_mul_le_mul_right this hs
  have k2 : A' < 10 ^ 16 * B' := by
    have := Nat.mul_lt_mul_of_pos_right h2 hs'
    have a1 : 10 ^ 17 * B * s' = 10 ^ 16 * B' * s := by
      rw [lit1, lit1, hb, Nat.mul_right_comm B 10 s']
      generalize B * s' = z
      omega
    rw [a1, ha] at this
    exact Nat.lt_of_mul_lt_mul_right this
  refine Nat.le_antisymm ?_ ?_
  · rcases Nat.lt_or_ge (10 ^ 16) q with h | h
    · exfalso
      have : 2 * (10 ^ 16 + 1) * B' ≤ 2 * q * B' := Nat.mul_le_mul_right _ (by omega)
      have e2 : 2 * (10 ^ 16 + 1) * B' = 2 * (10 ^ 16 * B') + 2 * B' := by rw [Nat.mul_assoc, Nat.add_mul, Nat.one_mul, Nat.mul_add]
      omega
    · exact h
  · rcases Nat.lt_or_ge q (10 ^ 16) with h | h
    · exfalso
      have : 2 * q * B' ≤ 2 * (10 ^ 16 - 1) * B' := Nat.mul_le_mul_right _ (by omega)
      have e2 : 2 * (10 ^ 16 - 1) * B' + 2 * B' = 2 * 10 ^ 16 * B' := by rw [← Nat.add_mul]
      omega
    · exact h
/-- What is told is the number. -/
theorem parse_tell {sg : List UInt8} {neg : Bool} (hsg : Sign sg neg) (x y c : Nat) (hx0 : 0 < x) (hy0 : 0 < y) (hx : Sml x) (hy : Sml y) (hc : 0 < c) (hg : x * U = gr c * y) : parseB (showN sg x y) = outB neg c := by
  obtain ⟨n, hn, b1, b2, n1, n2⟩ := down_found x y hx0 hy0 hx hy
  unfold showN
  simp only [hn]
  rw [below_shift x y n (n - 16) 16 (by omega)] at b1
  rw [below_shift x y (n + 1) (n - 16) 17 (by omega)] at b2
  have c1 : 10 ^ 16 * (y * upP (n - 16)) ≤ x * upQ (n - 16) := by
    have := of_decide_eq_false b1
    rw [Nat.mul_comm]; omega
  have c2 : x * upQ (n - 16) < 10 ^ 17 * (y * upP (n - 16)) := by
    have := of_decide_eq_true b2
    rw [Nat.mul_comm (10 ^ 17)]; exact this
  have hB : 0 < y * upP (n - 16) := Nat.mul_pos hy0 (upP_pos _)
  have hq := scaledN_eq x y (n - 16)
  obtain ⟨q1, q2, q3, q4⟩ := shown_bounds hB hq.symm c1 c2
  have near : Near (scaledN x y (n - 16) * upP (n - 16)) (upQ (n - 16)) c := near_digits hy0 (upQ_pos _) hc hg c1 q3 q4
  generalize hqq : scaledN x y (n - 16) = q at *
  have ht : tensN q = decN q := by unfold tensN; rw [Nat.mod_eq_of_lt (by omega)]
  rw [ht]
  by_cases h17 : q < 10 ^ 17
  · rw [if_neg (by rw [decN_len_eq 16 q q1 h17]; decide)]
    exact parse_put hsg q c n q1 h17 (by omega) (by omega) near
  · have hqe : q = 10 ^ 17 := by omega
    rw [if_pos (by rw [decN_len_eq 17 q (by omega) (by omega)]; decide)]
    have sh := up_shift (n + 1 - 16) (n - 16) 1 (by omega)
    have hnext : scaledN x y (n + 1 - 16) = 10 ^ 16 := by
      rw [scaledN_eq]
      refine shown_next (A := x * upQ (n - 16)) (B := y * upP (n - 16)) (s := upQ (n - 16)) (s' := upQ (n + 1 - 16)) (Nat.mul_pos hy0 (upP_pos _)) (upQ_pos _) (upQ_pos _) (Nat.mul_right_comm _ _ _) ?_ ?_ c2
      · rw [Nat.mul_assoc y, sh]
        generalize upP (n - 16) = a
        generalize upQ (n + 1 - 16) = b
        rw [Nat.pow_one, Nat.mul_assoc y a 10, Nat.mul_assoc y, Nat.mul_right_comm a 10 b, Nat.mul_comm 10 (a * b)]
      · rw [hqe] at q3; exact q3
    have hnear : Near (10 ^ 16 * upP (n + 1 - 16)) (upQ (n + 1 - 16)) c := by
      refine near_same near (upQ_pos _) (upQ_pos _) ?_
      rw [hqe, Nat.mul_assoc (10 ^ 16) (upP (n + 1 - 16)), sh]
      generalize upP (n - 16) = a
      generalize upQ (n + 1 - 16) = b
      rw [Nat.mul_assoc]
      generalize a * b = z
      omega
    rw [hnext, show tensN (10 ^ 16) = decN (10 ^ 16) from rfl]
    exact parse_put hsg (10 ^ 16) c (n + 1) (Nat.le_refl _) (by decide) (by omega) (by omega) hnear
theorem parse_show (b : Nat) (hb : b < 2 ^ 64) (hk : b / 2 ^ 52 % 2048 ≠ 2047) : parseB (showB b) = (b, 0) := by
  unfold showB
  rw [if_neg hk]
  have hc : b % 2 ^ 63 / 2 ^ 52 < 2047 := by omega
  have hlt : b % 2 ^ 63 < 2047 * 2 ^ 52 := by omega
  have hs : ∀ neg : Bool, neg = decide (2 ^ 63 ≤ b) → outB neg (b % 2 ^ 63) = (b, 0) := by
    intro neg h
    rw [outB, if_pos hlt]
    congr 1
    unfold signV
    by_cases ht : 2 ^ 63 ≤ b
    · rw [h, if_pos (by simp [ht]), (sign_or (v := b % 2 ^ 63) (by omega)).2]; omega
    · rw [h, if_neg (by simp; omega)]; omega
  obtain ⟨sg, neg, hsg, hneg, hout⟩ : ∃ sg neg, Sign sg neg ∧ neg = decide (2 ^ 63 ≤ b) ∧ (if 2 ^ 63 ≤ b then [45] else []) = sg := by
    by_cases ht : 2 ^ 63 ≤ b
    · exact ⟨[45], true, Or.inr (Or.inr ⟨rfl, rfl⟩), by simp [ht], if_pos ht⟩
    · exact ⟨[], false, sign_none, by simp; omega, if_neg ht⟩
  simp only [hout]
  have h2 := hs neg hneg
  generalize b % 2 ^ 63 = c at *
  by_cases h0 : c = 0
  · rw [if_pos h0]
    have e : sg ++ [48, 46, 48, 101, 48] = sg ++ ([48] ++ ([46, 48] ++ (101 :: ([] ++ decN 0)))) := by
      rw [show decN 0 = [48] from rfl]; rfl
    obtain ⟨v, hv, hp⟩ := parse_gen hsg (w := [48]) (by decide) (by decide) (pt := [46, 48]) (p := [48]) (Or.inr ⟨rfl, by decide, by decide⟩) (xt := 101 :: ([] ++ decN 0)) (n := 0) (Or.inr ⟨101, [], false, 0, Or.inl rfl, rfl, sign_none, by omega, by simp⟩) (by decide)
    have hv0 : v = 0 := near_eq hv (near_exact (x := 0) (y := 1) (v := 0) (by decide) (by rw [Nat.zero_mul]; rfl)) (Nat.pow_pos (by decide)) (by decide) (by rw [show numB ([48] ++ [48]) = 0 from rfl]; simp)
    rw [e, hp, hv0, ← h0]; exact h2
  · rw [if_neg h0]
    obtain ⟨s1, s2, s3⟩ := ratN_sml c (by omega) hc
    rw [parse_tell hsg (ratN c).1 (ratN c).2 c (ratN_pos c h0) s3 s1 s2 (by omega) (ratN_gr c hc)]
    exact h2
theorem showB_len (b : Nat) (hb : b < 2 ^ 64) : (showB b).length ≤ 1000 := by
  have put : ∀ (out : List UInt8) (q : Nat) (n : Int), out.length ≤ 1 → -1000000 < n → n < 1000000 → (putN out (tensN q) n).length ≤ 1000 := by
    intro out q n ho h1 h2
    have ht := tens_len q
    have hd := decI_len h1 h2
    have hr : (restN (tensN q)).length ≤ 20 := by
      unfold restN
      split
      · decide
      · have := trimR_len 48 ((tensN q).drop 1)
        rw [List.length_drop] at this
        omega
    unfold putN
    simp only [List.length_append, List.length_take, List.length_singleton]
    omega
  unfold showB
  split
  · decide
  · rename_i hk
    have ho : (if 2 ^ 63 ≤ b then [45] else ([] : List UInt8)).length ≤ 1 := by split <;> decide
    simp only
    split
    · rw [List.length_append]
      have h5 : ([48, 46, 48, 101, 48] : List UInt8).length = 5 := rfl
      omega
    · rename_i h0
      obtain ⟨s1, s2, s3⟩ := ratN_sml (b % 2 ^ 63) (by omega) (by omega)
      obtain ⟨n, hn, -, -, n1, n2⟩ := down_found (ratN (b % 2 ^ 63)).1 (ratN (b % 2 ^ 63)).2 (ratN_pos _ h0) s3 s1 s2
      unfold showN
      simp only [hn]
      split
      · exact put _ _ _ ho (by omega) (by omega)
      · exact put _ _ _ ho (by omega) (by omega)
theorem back_s (b : Nat) (hb : b < 18446744073709551616) : rk Tryd.prog pol (Task.call 5 [V.d (D.i IntKind.u64 (b : Int))] []) = some (.d (.b true), []) := by
  have h1 : (b : Int).fdiv 4503599627370496 = ((b / 2 ^ 52 : Nat) : Int) := fdiv_nat b 4503599627370496
  have h2 : (BitVec.ofInt IntKind.u64.bits ((b / 2 ^ 52 : Nat) : Int) &&& BitVec.ofInt IntKind.u64.bits 2047).toNat = b / 2 ^ 52 % 2048 :=
    and_mod (b := b / 2 ^ 52) (k := 11) (by omega) 2047 (by decide)
  have w1 : IntKind.u64.wrap ((b / 2 ^ 52 % 2048 : Nat) : Int) = ((b / 2 ^ 52 % 2048 : Nat) : Int) := by rw [u64_wrap]; omega
  have s := parse_s (showB b) (Nat.le_trans (showB_len b hb) (by decide))
  rw [f5, h1, h2, w1, st_B begun_s, st_nt, st_S (show_s b hb)]
  by_cases hk : b / 2 ^ 52 % 2048 = 2047
  · rw [st_eq (by omega), interp_ret]
    rw [showB, if_pos hk]; rfl
  · rw [parse_show b hb hk] at s
    rw [st_ne (by omega), st_II s, st_eq rfl, interp_ret, beq_self_eq_true]
end Go.Dn.Dec
