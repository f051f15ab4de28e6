/- Single steps of what is read: each lemma takes one call, or one check, and nothing behind it. -/
import Derived.Test.YtdilnnjabjpocaaDoorDn4
import Derived.Test.YtdilnnjabjpocaaDoorDe3
namespace Go.Dn
section
variable {f : Task → Option Out}
theorem st_call {t : Task} {o : Out} {K : Out → Tr} (h : f t = some o) : interp f (.call t K) = interp f (K o) := by rw [interp_call, h]; rfl
theorem st_ret {t : Task} {o : Out} (h : f t = some o) : interp f (.call t .ret) = some o := by rw [st_call h]; rfl
theorem st_B {t : Task} {b : Bool} {K : Bool → Tr} (h : f t = some (.d (.b b), [])) :
    interp f (.call t fun o => ift o.snd.isEmpty (asD o.fst fun d => asB d fun x => K x)) = interp f (K b) := st_call h
theorem st_S {t : Task} {s : List UInt8} {K : List UInt8 → Tr} (h : f t = some (.d (.s s), [])) :
    interp f (.call t fun o => ift o.snd.isEmpty (asD o.fst fun d => asS d fun x => K x)) = interp f (K s) := st_call h
theorem st_L {t : Task} {b : Bool} {l : List D} {K : Bool → List D → Tr} (h : f t = some (.d (.l b l), [])) :
    interp f (.call t fun o => ift o.snd.isEmpty (asD o.fst fun d => asL d fun x y => K x y)) = interp f (K b l) := st_call h
theorem st_I {t : Task} {k : IntKind} {n : Int} {K : Int → Tr} (h : f t = some (.d (.i k n), [])) :
    interp f (.call t fun o => ift o.snd.isEmpty (asD o.fst fun d => asI k d fun x => K x)) = interp f (K n) := by
  rw [st_call h]
  show interp f (asI k (.i k n) K) = _
  rw [interp_asI, if_pos rfl]
theorem st_II {t : Task} {k j : IntKind} {n m : Int} {e e' : V} {K : Int → Int → Tr} (h : f t = some (.t [.d (.i k n), .d (.i j m)], [])) :
    interp f (.call t fun o => ift o.snd.isEmpty (unT o.fst fun l => ift (l.length == 2) (asD (l.getD 0 e) fun d => asI k d fun x => asD (l.getD 1 e') fun d' => asI j d' fun y => K x y))) = interp f (K n m) := by
  rw [st_call h]
  show interp f (asI k (.i k n) fun x => asI j (.i j m) fun y => K x y) = _
  rw [interp_asI, if_pos rfl, interp_asI, if_pos rfl]
theorem st_IB {t : Task} {k : IntKind} {n : Int} {b : Bool} {e e' : V} {K : Int → Bool → Tr} (h : f t = some (.t [.d (.i k n), .d (.b b)], [])) :
    interp f (.call t fun o => ift o.snd.isEmpty (unT o.fst fun l => ift (l.length == 2) (asD (l.getD 0 e) fun d => asI k d fun x => asD (l.getD 1 e') fun d' => asB d' fun y => K x y))) = interp f (K n b) := by
  rw [st_call h]
  show interp f (asI k (.i k n) fun x => asB (.b b) fun y => K x y) = _
  rw [interp_asI, if_pos rfl]; rfl
theorem st_LL {t : Task} {b c : Bool} {l m : List D} {e e' : V} {K : Bool → List D → Bool → List D → Tr} (h : f t = some (.t [.d (.l b l), .d (.l c m)], [])) :
    interp f (.call t fun o => ift o.snd.isEmpty (unT o.fst fun l => ift (l.length == 2) (asD (l.getD 0 e) fun d => asL d fun x y => asD (l.getD 1 e') fun d' => asL d' fun z w => K x y z w))) = interp f (K b l c m) := st_call h
theorem st_if {c : Prop} [Decidable c] {X : Tr} (h : c) : interp f (ift (decide c) X) = interp f X := by rw [interp_ift', decide_eq_true h, if_pos rfl]
theorem st_ift {X : Tr} : interp f (ift true X) = interp f X := by rw [interp_ift', if_pos rfl]
theorem st_t {c : Prop} [Decidable c] {X Y : Tr} (h : c) : interp f (brB (decide c) X Y) = interp f X := by rw [interp_brB, decide_eq_true h, if_pos rfl]
theorem st_f {c : Prop} [Decidable c] {X Y : Tr} (h : ¬ c) : interp f (brB (decide c) X Y) = interp f Y := by rw [interp_brB, decide_eq_false h, if_neg (by decide)]
theorem st_bt {b : Bool} {X Y : Tr} (h : b = true) : interp f (brB b X Y) = interp f X := by rw [interp_brB, h, if_pos rfl]
theorem st_bf {b : Bool} {X Y : Tr} (h : b = false) : interp f (brB b X Y) = interp f Y := by rw [interp_brB, h, if_neg (by decide)]
theorem st_T {X Y : Tr} : interp f (brB true X Y) = interp f X := rfl
theorem st_F {X Y : Tr} : interp f (brB false X Y) = interp f Y := rfl
theorem st_nt {X Y : Tr} : interp f (brB (!true) X Y) = interp f Y := rfl
theorem st_nf {X Y : Tr} : interp f (brB (!false) X Y) = interp f X := rfl
theorem st_eq {n m : Int} {X Y : Tr} (h : n = m) : interp f (brB (n == m) X Y) = interp f X := st_bt (beq_iff_eq.2 h)
theorem st_ne {n m : Int} {X Y : Tr} (h : n ≠ m) : interp f (brB (n == m) X Y) = interp f Y := st_bf (beq_eq_false_iff_ne.2 h)
theorem st_ne_t {n m : Int} {X Y : Tr} (h : n ≠ m) : interp f (brB (n != m) X Y) = interp f X := st_bt (bne_iff_ne.2 h)
theorem st_ne_f {n m : Int} {X Y : Tr} (h : n = m) : interp f (brB (n != m) X Y) = interp f Y := st_bf (by rw [h]; exact bne_self_eq_false m)
theorem st_ob {α : Type} {x : Option α} {a : α} {K : α → Tr} (h : x = some a) : interp f (ob x K) = interp f (K a) := by rw [interp_ob', h]; rfl
end
end Go.Dn
namespace Go.Dn.Dec
set_option exponentiation.threshold 5000000
/-- The smallest number is one of so many in 1. -/
def U : Nat := 2 ^ 1074
/-- 2^54 - 1 -/
def E : Nat := 18014398509481983
theorem E_eq : E + 1 = 2 * 2 ^ 53 := by decide
theorem U_pos : 0 < U := Nat.pow_pos (by decide)
theorem ac1 (a b c d : Nat) : a * (b * c) * d = a * (d * b) * c := by ac_rfl
theorem ac4 (a b c : Nat) : a * b * c * 2 = a * (b * 2 * c) := by ac_rfl
theorem pow_pred {k : Nat} (h : 0 < k) : 2 ^ k = 2 ^ (k - 1) * 2 := by rw [← Nat.pow_succ, Nat.succ_eq_add_one, Nat.sub_add_cancel h]
theorem ac2 (a b c : Nat) : a * b * c = a * c * b := by ac_rfl
theorem ac3 (x a b : Nat) : 2 * x * (a * b) = 2 * (x * a) * b := by ac_rfl
theorem U_split {k : Nat} (h : k ≤ 1074) : U = 2 ^ (1074 - k) * 2 ^ k := by rw [← Nat.pow_add, Nat.sub_add_cancel h]; rfl
theorem U_join {k : Nat} (h : 1074 ≤ k) : 2 ^ k = 2 ^ (k - 1074) * U := by unfold U; rw [← Nat.pow_add, Nat.sub_add_cancel h]
/-- The number that bits tell, in smallest ones. -/
def gr (v : Nat) : Nat := if v < 2 ^ 52 then v else (v % 2 ^ 52 + 2 ^ 52) * 2 ^ (v / 2 ^ 52 - 1)
theorem gr_of (k q : Nat) (hq : q ≤ 2 ^ 53) (h : k = 0 ∨ 2 ^ 52 ≤ q) : gr (k * 2 ^ 52 + q) = q * 2 ^ k := by
  unfold gr
  by_cases h0 : q < 2 ^ 52
  · have hk : k = 0 := by omega
    subst hk
    rw [if_pos (by omega)]; omega
  · rw [if_neg (by omega)]
    by_cases h1 : q < 2 ^ 53
    · have e1 : (k * 2 ^ 52 + q) % 2 ^ 52 + 2 ^ 52 = q := by omega
      have e2 : (k * 2 ^ 52 + q) / 2 ^ 52 - 1 = k := by omega
      rw [e1, e2]
    · have e1 : (k * 2 ^ 52 + q) % 2 ^ 52 + 2 ^ 52 = 2 ^ 52 := by omega
      have e2 : (k * 2 ^ 52 + q) / 2 ^ 52 - 1 = k + 1 := by omega
      have e3 : q = 2 ^ 52 * 2 := by omega
      rw [e1, e2, e3, Nat.pow_succ 2 k, Nat.mul_comm (2 ^ k) 2, Nat.mul_assoc]
theorem gr_split (v : Nat) : ∃ k q, q < 2 ^ 53 ∧ (k = 0 ∨ 2 ^ 52 ≤ q) ∧ v = k * 2 ^ 52 + q := by
  by_cases h : v < 2 ^ 52
  · exact ⟨0, v, by omega, Or.inl rfl, by omega⟩
  · exact ⟨v / 2 ^ 52 - 1, v % 2 ^ 52 + 2 ^ 52, by omega, Or.inr (by omega), by omega⟩
theorem gr_next (k q : Nat) (hq : q < 2 ^ 53) (h : k = 0 ∨ 2 ^ 52 ≤ q) : gr (k * 2 ^ 52 + q + 1) = (q + 1) * 2 ^ k := by
  rw [Nat.add_assoc]; exact gr_of k (q + 1) (by omega) (by omega)
theorem gr_lt (v : Nat) : gr v < gr (v + 1) := by
  obtain ⟨k, q, h1, h2, rfl⟩ := gr_split v
  rw [gr_of k q (by omega) h2, gr_next k q h1 h2]
  exact Nat.mul_lt_mul_of_pos_right (by omega) (Nat.pow_pos (by decide))
theorem gr_mono {v w : Nat} (h : v ≤ w) : gr v ≤ gr w := by
  induction h with
  | refl => exact Nat.le_refl _
  | step _ ih => exact Nat.le_trans ih (Nat.le_of_lt (gr_lt _))
theorem gr_lt_of {v w : Nat} (h : v < w) : gr v < gr w := Nat.lt_of_lt_of_le (gr_lt v) (gr_mono h)
/-- Twice what lies between two. -/
def mid (v : Nat) : Nat := gr v + gr (v + 1)
theorem mid_mono {v w : Nat} (h : v ≤ w) : mid v ≤ mid w := by
  unfold mid
  have := gr_mono h
  have := gr_mono (show v + 1 ≤ w + 1 by omega)
  omega
theorem mid_lt_of {v w : Nat} (h : v < w) : mid v < mid w := by
  unfold mid
  have := gr_lt_of h
  have := gr_lt_of (show v + 1 < w + 1 by omega)
  omega
/-- v's number is nearest to x / y, and the even one if two are. -/
def Near (x y v : Nat) : Prop :=
  (2 * x * U < mid v * y ∨ (2 * x * U = mid v * y ∧ v % 2 = 0)) ∧ (v = 0 ∨ mid (v - 1) * y < 2 * x * U ∨ (mid (v - 1) * y = 2 * x * U ∧ v % 2 = 0))
theorem near_mono {x y v x' y' v' : Nat} (h : Near x y v) (h' : Near x' y' v') (hy : 0 < y) (hy' : 0 < y') (hle : x * y' ≤ x' * y) : v ≤ v' := by
  rcases Nat.lt_or_ge v' v with hlt | hge
  · exfalso
    have hm : mid v' ≤ mid (v - 1) := mid_mono (by omega)
    obtain ⟨-, hl⟩ := h
    obtain ⟨hu, -⟩ := h'
    have e1 : 2 * x * U * y' ≤ 2 * x' * U * y := by
      have := Nat.mul_le_mul_left (2 * U) hle
      have a1 : 2 * x * U * y' = 2 * U * (x * y') := by ac_rfl
      have a2 : 2 * x' * U * y = 2 * U * (x' * y) := by ac_rfl
      omega
    have e2 : mid v' * y' * y ≤ mid (v - 1) * y * y' := by
      have := Nat.mul_le_mul_right (y' * y) hm
      have a1 : mid v' * y' * y = mid v' * (y' * y) := by ac_rfl
      have a2 : mid (v - 1) * y * y' = mid (v - 1) * (y' * y) := by ac_rfl
      omega
    have l0 : mid (v - 1) * y ≤ 2 * x * U := by omega
    have u0 : 2 * x' * U ≤ mid v' * y' := by omega
    have l1 := Nat.mul_le_mul_right y' l0
    have u1 := Nat.mul_le_mul_right y u0
    have k1 : mid (v - 1) * y = 2 * x * U := Nat.eq_of_mul_eq_mul_right hy' (by omega)
    have k2 : 2 * x' * U = mid v' * y' := Nat.eq_of_mul_eq_mul_right hy (by omega)
    have k3 : mid v' = mid (v - 1) := by
      have a1 : mid v' * y' * y = mid v' * (y' * y) := by ac_rfl
      have a2 : mid (v - 1) * y * y' = mid (v - 1) * (y' * y) := by ac_rfl
      exact Nat.eq_of_mul_eq_mul_right (Nat.mul_pos hy' hy) (by omega)
    have k4 : v' = v - 1 := by
      rcases Nat.lt_or_ge v' (v - 1) with h3 | h3
      · have := mid_lt_of h3; omega
      · omega
    omega
  · exact hge
theorem near_eq {x y v x' y' v' : Nat} (h : Near x y v) (h' : Near x' y' v') (hy : 0 < y) (hy' : 0 < y') (he : x * y' = x' * y) : v = v' :=
  Nat.le_antisymm (near_mono h h' hy hy' (Nat.le_of_eq he)) (near_mono h' h hy' hy (Nat.le_of_eq he.symm))
/-- What lies strictly between the middles is nearest. -/
theorem near_in {x y v : Nat} (h1 : 2 * x * U < mid v * y) (h2 : v = 0 ∨ mid (v - 1) * y < 2 * x * U) : Near x y v := ⟨Or.inl h1, h2.elim Or.inl fun h => Or.inr (Or.inl h)⟩
theorem near_exact {x y v : Nat} (hy : 0 < y) (h : x * U = gr v * y) : Near x y v := by
  have e : 2 * x * U = 2 * gr v * y := by rw [Nat.mul_assoc, h, Nat.mul_assoc]
  refine near_in ?_ ?_
  · rw [e]
    refine Nat.mul_lt_mul_of_pos_right ?_ hy
    have := gr_lt v
    unfold mid; omega
  · rcases Nat.eq_zero_or_pos v with h0 | h0
    · exact Or.inl h0
    · right
      rw [e]
      refine Nat.mul_lt_mul_of_pos_right ?_ hy
      have := gr_lt (v - 1)
      unfold mid
      rw [Nat.sub_add_cancel h0] at this ⊢
      omega
/-! ### bitsN tells the nearest -/
theorem nearN_up (x y : Nat) (hy : 0 < y) : 2 * x < (2 * nearN x y + 1) * y ∨ (2 * x = (2 * nearN x y + 1) * y ∧ nearN x y % 2 = 0) := by
  have hd := Nat.div_add_mod x y
  have hr : x % y < y := Nat.mod_lt _ hy
  unfold nearN
  generalize x / y = q at *
  generalize x % y = r at *
  have e1 : (2 * (q + 1) + 1) * y = 2 * (y * q) + 3 * y := by rw [Nat.add_mul, Nat.mul_assoc, Nat.add_mul, Nat.mul_comm q y]; omega
  have e2 : (2 * q + 1) * y = 2 * (y * q) + y := by rw [Nat.add_mul, Nat.mul_assoc, Nat.mul_comm q y]; omega
  split
  · rw [e1]; omega
  · rw [e2]; omega
theorem nearN_low (x y : Nat) (hy : 0 < y) : 2 * nearN x y * y < 2 * x + y ∨ (2 * nearN x y * y = 2 * x + y ∧ nearN x y % 2 = 0) := by
  have hd := Nat.div_add_mod x y
  have hr : x % y < y := Nat.mod_lt _ hy
  unfold nearN
  generalize x / y = q at *
  generalize x % y = r at *
  have e1 : 2 * (q + 1) * y = 2 * (y * q) + 2 * y := by rw [Nat.mul_assoc, Nat.add_mul, Nat.mul_comm q y]; omega
  have e2 : 2 * q * y = 2 * (y * q) := by rw [Nat.mul_assoc, Nat.mul_comm q y]
  split
  · rw [e1]; omega
  · rw [e2]; omega
theorem nearAt_up (x y k : Nat) (hy : 0 < y) : 2 * x * U < (2 * nearAt x y ((k : Int) - 1074) + 1) * 2 ^ k * y ∨ (2 * x * U = (2 * nearAt x y ((k : Int) - 1074) + 1) * 2 ^ k * y ∧ nearAt x y ((k : Int) - 1074) % 2 = 0) := by
  unfold nearAt
  by_cases h : (k : Int) - 1074 < 0
  · rw [if_pos h, show (-((k : Int) - 1074)).toNat = 1074 - k by omega]
    have h1 := nearN_up (x * 2 ^ (1074 - k)) y hy
    have e := U_split (k := k) (by omega)
    generalize nearN (x * 2 ^ (1074 - k)) y = q at *
    have e1 : 2 * x * U = 2 * (x * 2 ^ (1074 - k)) * 2 ^ k := by rw [e]; exact ac3 _ _ _
    have e2 : (2 * q + 1) * 2 ^ k * y = (2 * q + 1) * y * 2 ^ k := ac2 _ _ _
    rw [e1, e2]
    exact h1.imp (fun h => Nat.mul_lt_mul_of_pos_right h (Nat.pow_pos (by decide))) (fun h => ⟨by rw [h.1], h.2⟩)
  · rw [if_neg h, show ((k : Int) - 1074).toNat = k - 1074 by omega]
    have h1 := nearN_up x (y * 2 ^ (k - 1074)) (Nat.mul_pos hy (Nat.pow_pos (by decide)))
    have e := U_join (k := k) (by omega)
    generalize nearN x (y * 2 ^ (k - 1074)) = q at *
    have e2 : (2 * q + 1) * 2 ^ k * y = (2 * q + 1) * (y * 2 ^ (k - 1074)) * U := by rw [e]; exact ac1 _ _ _ _
    rw [e2]
    exact h1.imp (fun h => Nat.mul_lt_mul_of_pos_right h U_pos) (fun h => ⟨by rw [h.1], h.2⟩)
theorem nearAt_low (x y k : Nat) (hy : 0 < y) : 2 * nearAt x y ((k : Int) - 1074) * 2 ^ k * y < 2 * x * U + 2 ^ k * y ∨ (2 * nearAt x y ((k : Int) - 1074) * 2 ^ k * y = 2 * x * U + 2 ^ k * y ∧ nearAt x y ((k : Int) - 1074) % 2 = 0) := by
  unfold nearAt
  by_cases h : (k : Int) - 1074 < 0
  · rw [if_pos h, show (-((k : Int) - 1074)).toNat = 1074 - k by omega]
    have h1 := nearN_low (x * 2 ^ (1074 - k)) y hy
    have e := U_split (k := k) (by omega)
    generalize nearN (x * 2 ^ (1074 - k)) y = q at *
    have e1 : 2 * x * U + 2 ^ k * y = (2 * (x * 2 ^ (1074 - k)) + y) * 2 ^ k := by rw [e, Nat.add_mul, ac3, Nat.mul_comm y]
    have e2 : 2 * q * 2 ^ k * y = 2 * q * y * 2 ^ k := ac2 _ _ _
    rw [e1, e2]
    exact h1.imp (fun h => Nat.mul_lt_mul_of_pos_right h (Nat.pow_pos (by decide))) (fun h => ⟨by rw [h.1], h.2⟩)
  · rw [if_neg h, show ((k : Int) - 1074).toNat = k - 1074 by omega]
    have h1 := nearN_low x (y * 2 ^ (k - 1074)) (Nat.mul_pos hy (Nat.pow_pos (by decide)))
    have e := U_join (k := k) (by omega)
    generalize nearN x (y * 2 ^ (k - 1074)) = q at *
    have e1 : 2 * x * U + 2 ^ k * y = (2 * x + y * 2 ^ (k - 1074)) * U := by rw [e, Nat.add_mul, ac2 _ U y, Nat.mul_comm y]
    have e2 : 2 * q * 2 ^ k * y = 2 * q * (y * 2 ^ (k - 1074)) * U := by rw [e]; exact ac1 _ _ _ _
    rw [e1, e2]
    exact h1.imp (fun h => Nat.mul_lt_mul_of_pos_right h U_pos) (fun h => ⟨by rw [h.1], h.2⟩)
theorem mid_at (k q : Nat) (hq : q < 2 ^ 53) (h : k = 0 ∨ 2 ^ 52 ≤ q) : mid (k * 2 ^ 52 + q) = (2 * q + 1) * 2 ^ k := by
  rw [mid, gr_of k q (by omega) h, gr_next k q hq h, ← Nat.add_mul, show q + (q + 1) = 2 * q + 1 by omega]
theorem mid_under (k q : Nat) (hq : q < 2 ^ 53) (h0 : 0 < q) (h : k = 0 ∨ 2 ^ 52 < q) : mid (k * 2 ^ 52 + q - 1) = (2 * q - 1) * 2 ^ k := by
  have e : k * 2 ^ 52 + q - 1 = k * 2 ^ 52 + (q - 1) := by omega
  rw [e, mid_at k (q - 1) (by omega) (by omega), show 2 * (q - 1) + 1 = 2 * q - 1 by omega]
theorem mid_edge (k : Nat) (hk : 0 < k) : mid (k * 2 ^ 52 + 2 ^ 52 - 1) = E * 2 ^ (k - 1) := by
  have hE := E_eq
  obtain ⟨q, hq⟩ : ∃ q, q + 1 = 2 ^ 53 := ⟨2 ^ 53 - 1, by omega⟩
  have e : k * 2 ^ 52 + 2 ^ 52 - 1 = (k - 1) * 2 ^ 52 + q := by omega
  rw [e, mid_at (k - 1) q (by omega) (by omega), show 2 * q + 1 = E by omega]
/-- A quotient that came to an end in the loop. -/
theorem near_found1 (q X A y k : Nat) (hp : 0 < A * y) (hu : X < (2 * q + 1) * A * y ∨ (X = (2 * q + 1) * A * y ∧ q % 2 = 0)) (B : Nat) (hB : 0 < k → A = B * 2)
    (hlow : k = 0 ∨ E * B * y ≤ X) : k = 0 ∨ 4503599627370496 ≤ q := by
  have hE := E_eq
  rcases hlow with h | h
  · exact Or.inl h
  · rcases Nat.eq_zero_or_pos k with h0 | h0
    · exact Or.inl h0
    · right
      have e : E * B * y * 2 = E * (A * y) := by rw [hB h0]; exact ac4 _ _ _
      have h1 : X ≤ (2 * q + 1) * (A * y) := by rw [← Nat.mul_assoc]; omega
      have h2 : E * (A * y) ≤ (2 * (2 * q + 1)) * (A * y) := by rw [Nat.mul_assoc 2 (2 * q + 1)]; omega
      have h3 := Nat.le_of_mul_le_mul_right h2 hp
      omega
theorem near_found2 (q X A y : Nat) (hq : 0 < q) (hl : 2 * q * A * y < X + A * y ∨ (2 * q * A * y = X + A * y ∧ q % 2 = 0)) : (2 * q - 1) * A * y < X ∨ ((2 * q - 1) * A * y = X ∧ q % 2 = 0) := by
  have e2 : (2 * q - 1) * A * y + A * y = 2 * q * A * y := by
    rw [Nat.mul_assoc, Nat.mul_assoc (2 * q), ← Nat.succ_mul, show (2 * q - 1).succ = 2 * q by omega]
  rcases hl with h | h
  · left; omega
  · right; exact ⟨by omega, h.2⟩
theorem near_found (x y k : Nat) (hy : 0 < y) (hq : nearAt x y ((k : Int) - 1074) < 2 ^ 53) (hlow : k = 0 ∨ E * 2 ^ (k - 1) * y ≤ 2 * x * U) :
    Near x y (k * 2 ^ 52 + nearAt x y ((k : Int) - 1074)) ∧ (k = 0 ∨ 2 ^ 52 ≤ nearAt x y ((k : Int) - 1074)) := by
  have hu := nearAt_up x y k hy
  have hl := nearAt_low x y k hy
  generalize nearAt x y ((k : Int) - 1074) = q at *
  have hp : 0 < 2 ^ k * y := Nat.mul_pos (Nat.pow_pos (by decide)) hy
  have h52 : k = 0 ∨ 2 ^ 52 ≤ q := near_found1 q _ _ y k hp hu (2 ^ (k - 1)) pow_pred hlow
  refine ⟨⟨?_, ?_⟩, h52⟩
  · rw [mid_at k q hq h52]
    refine hu.imp id fun h => ⟨h.1, ?_⟩
    omega
  · by_cases h0 : k * 2 ^ 52 + q = 0
    · exact Or.inl h0
    · right
      by_cases hb : k = 0 ∨ 2 ^ 52 < q
      · rw [mid_under k q hq (by omega) hb]
        exact (near_found2 q _ _ y (by omega) hl).imp id fun h => ⟨h.1, by omega⟩
      · have hk : 0 < k := by omega
        have hq2 : q = 2 ^ 52 := by omega
        have hev : (k * 2 ^ 52 + q) % 2 = 0 := by omega
        rw [hq2, mid_edge k hk]
        rw [hq2] at hev
        rcases hlow with h | h
        · omega
        · exact (Nat.lt_or_eq_of_le h).imp id fun h1 => ⟨h1, hev⟩
/-- What had one bit too many the step before. -/
theorem low_of_big (x y k : Nat) (hy : 0 < y) (hq : 2 ^ 53 ≤ nearAt x y ((k : Int) - 1074)) : E * 2 ^ k * y ≤ 2 * x * U := by
  have hl := nearAt_low x y k hy
  have hE := E_eq
  generalize nearAt x y ((k : Int) - 1074) = q at *
  have h1 : E * 2 ^ k * y + 2 ^ k * y = (E + 1) * 2 ^ k * y := by rw [Nat.mul_assoc, Nat.mul_assoc (E + 1), Nat.succ_mul]
  have h2 : (E + 1) * 2 ^ k * y ≤ 2 * q * 2 ^ k * y := Nat.mul_le_mul_right _ (Nat.mul_le_mul_right _ (by omega))
  omega
/-- The first step's exponent. -/
theorem low_of_first (x y k : Nat) (hx : x ≠ 0) (hk : 0 < k) (h : (k : Int) - 1074 = (blen x : Int) - blen y - 53) : E * 2 ^ (k - 1) * y ≤ 2 * x * U := by
  have hx1 := blen_le x hx
  have hy1 := lt_blen y
  have bx := blen_pos hx
  have hE := E_eq
  have h1 : 2 ^ 54 * 2 ^ (k - 1) * 2 ^ blen y = 2 * 2 ^ (blen x - 1) * U := by
    unfold U
    rw [← Nat.pow_add, ← Nat.pow_add, Nat.mul_comm 2 (2 ^ (blen x - 1)), ← Nat.pow_succ, ← Nat.pow_add]
    congr 1
    omega
  have h2 : E * 2 ^ (k - 1) * y ≤ 2 ^ 54 * 2 ^ (k - 1) * 2 ^ blen y := Nat.mul_le_mul (Nat.mul_le_mul_right _ (by omega)) (Nat.le_of_lt hy1)
  have h3 : 2 * 2 ^ (blen x - 1) * U ≤ 2 * x * U := Nat.mul_le_mul_right _ (Nat.mul_le_mul_left _ hx1)
  omega
/-- What bits are handed back of the nearest. -/
def finN (v : Nat) : Nat × Bool := if v < 2047 * 2 ^ 52 then (v, true) else (0, false)
theorem joined_fin (k q : Nat) (hq : q < 2 ^ 53) (h : k = 0 ∨ 2 ^ 52 ≤ q) : joinedN q ((k : Int) - 1074) = finN (k * 2 ^ 52 + q) := by
  unfold joinedN finN
  by_cases h1 : q < 2 ^ 52
  · rw [if_pos h1, if_pos (by omega)]
    have : k = 0 := by omega
    subst this; simp
  · rw [if_neg h1]
    by_cases h2 : 971 < (k : Int) - 1074
    · rw [if_pos h2, if_neg (by omega)]
    · rw [if_neg h2, if_pos (by omega)]
      rw [show ((k : Int) - 1074 + 1075).toNat = k + 1 by omega, show (k + 1) * 2 ^ 52 + (q - 2 ^ 52) = k * 2 ^ 52 + q by omega]
theorem bitsN_near (x y : Nat) (hy : 0 < y) : ∃ v, Near x y v ∧ bitsN x y = finN v := by
  by_cases h0 : x = 0
  · refine ⟨0, ⟨Or.inl ?_, Or.inl rfl⟩, ?_⟩
    · subst h0
      rw [Nat.mul_zero, Nat.zero_mul]
      exact Nat.mul_pos (by decide) hy
    · rw [bitsN, if_pos h0]; decide
  · have hf : -1074 ≤ firstE x y := Int.le_max_right ..
    have key : ∀ k : Nat, nearAt x y ((k : Int) - 1074) < 2 ^ 53 → (k = 0 ∨ E * 2 ^ (k - 1) * y ≤ 2 * x * U) → ∃ v, Near x y v ∧ joinedN (nearAt x y ((k : Int) - 1074)) ((k : Int) - 1074) = finN v := by
      intro k hq hl
      obtain ⟨h1, h2⟩ := near_found x y k hy hq hl
      exact ⟨_, h1, joined_fin k _ hq h2⟩
    obtain ⟨k, hk⟩ : ∃ k : Nat, firstE x y = (k : Int) - 1074 := ⟨(firstE x y + 1074).toNat, by omega⟩
    have e1 : (k : Int) - 1074 + 1 = ((k + 1 : Nat) : Int) - 1074 := by omega
    have e2 : (k : Int) - 1074 + 2 = ((k + 2 : Nat) : Int) - 1074 := by omega
    have h3 := third x y h0 hy
    rw [bitsN, if_neg h0]
    rw [hk] at h3 ⊢
    rw [e2] at h3 ⊢
    rw [e1]
    split
    · rename_i hb
      refine key k ((blen_le_iff _ _).1 hb) ?_
      rcases Nat.eq_zero_or_pos k with h | h
      · exact Or.inl h
      · exact Or.inr (low_of_first x y k h0 h (by unfold firstE at hk; omega))
    · rename_i hb
      split
      · rename_i hb1
        refine key (k + 1) ((blen_le_iff _ _).1 hb1) (Or.inr ?_)
        exact low_of_big x y k hy (by have := mt (blen_le_iff _ _).2 hb; omega)
      · rename_i hb1
        refine key (k + 2) (by omega) (Or.inr ?_)
        exact low_of_big x y (k + 1) hy (by have := mt (blen_le_iff _ _).2 hb1; omega)
end Go.Dn.Dec
namespace Go.Dn.Dec
set_option exponentiation.threshold 5000000
theorem dig_val (k : Nat) (h : k < 10) : (UInt8.ofNat (48 + k)).toNat = 48 + k := by rw [UInt8.toNat_ofNat']; omega
theorem isDig_val (k : Nat) (h : k < 10) : isDig (UInt8.ofNat (48 + k)) = true := by rw [isDig_iff, dig_val k h]; omega
theorem digV_val (k : Nat) (h : k < 10) : digV (UInt8.ofNat (48 + k)) = k := by rw [digV, dig_val k h]; omega
theorem decN_dig (n : Nat) : ∀ c ∈ decN n, isDig c = true := by
  induction n using Nat.strongRecOn with
  | ind n ih =>
    intro c hc
    rw [decN_eq] at hc
    split at hc
    · rename_i h
      rw [List.mem_singleton] at hc
      rw [hc]; exact isDig_val n h
    · rename_i h
      rcases List.mem_append.1 hc with hc | hc
      · exact ih (n / 10) (by omega) c hc
      · rw [List.mem_singleton] at hc
        rw [hc]; exact isDig_val _ (Nat.mod_lt _ (by decide))
theorem numF_append (v : Nat) (a b : List UInt8) : numF v (a ++ b) = numF (numF v a) b := by simp [numF, List.foldl_append]
theorem numB_decN (n : Nat) : numB (decN n) = n := by
  induction n using Nat.strongRecOn with
  | ind n ih =>
    rw [decN_eq]
    split
    · rename_i h
      show 0 * 10 + digV _ = n
      rw [digV_val n h]; omega
    · rename_i h
      have h1 := ih (n / 10) (by omega)
      unfold numB at h1 ⊢
      rw [numF_append, h1]
      show n / 10 * 10 + digV _ = n
      rw [digV_val _ (Nat.mod_lt _ (by decide))]; omega
theorem numF_eq (d : List UInt8) : ∀ v, numF v d = v * 10 ^ d.length + numB d := by
  induction d with
  | nil => intro v; simp [numF, numB]
  | cons c d ih =>
    intro v
    have h1 : numF v (c :: d) = numF (v * 10 + digV c) d := rfl
    have h2 : numB (c :: d) = numF (0 * 10 + digV c) d := rfl
    rw [h1, h2, ih (v * 10 + digV c), ih (0 * 10 + digV c), Nat.zero_mul, Nat.zero_add, List.length_cons, Nat.pow_succ, Nat.add_mul, Nat.mul_assoc, Nat.mul_comm 10 (10 ^ d.length)]
    omega
theorem numB_append (a b : List UInt8) : numB (a ++ b) = numB a * 10 ^ b.length + numB b := by rw [numB, numF_append, numF_eq]; rfl
theorem numB_zeros (n : Nat) : numB (List.replicate n 48) = 0 := by
  induction n with
  | zero => rfl
  | succ n ih =>
    rw [List.replicate_succ']
    rw [numB_append, ih]; rfl
/-- No nought ahead. -/
theorem decN_head (n : Nat) (h : n ≠ 0) : (decN n).dropWhile (· == 48) = decN n := by
  have key : ∃ c r, decN n = c :: r ∧ (c == 48) = false := by
    induction n using Nat.strongRecOn with
    | ind n ih =>
      rw [decN_eq]
      split
      · rename_i h9
        refine ⟨_, _, rfl, ?_⟩
        rw [beq_eq_false_iff_ne]
        intro e
        have := congrArg UInt8.toNat e
        rw [dig_val n h9] at this
        exact h (by simpa using this)
      · obtain ⟨c, r, e1, e2⟩ := ih (n / 10) (by omega) (by omega)
        exact ⟨c, r ++ _, by rw [e1, List.cons_append], e2⟩
  obtain ⟨c, r, e1, e2⟩ := key
  rw [e1, List.dropWhile_cons, e2]; simp
theorem takeW (w t : List UInt8) (hw : ∀ c ∈ w, isDig c = true) (ht : t.takeWhile isDig = []) : (w ++ t).takeWhile isDig = w := by
  induction w with
  | nil => exact ht
  | cons c w ih =>
    rw [List.cons_append, List.takeWhile_cons, hw c (by simp), if_pos rfl, ih fun c h => hw c (by simp [h])]
theorem dropW (w t : List UInt8) (hw : ∀ c ∈ w, isDig c = true) (ht : t.dropWhile isDig = t) : (w ++ t).dropWhile isDig = t := by
  induction w with
  | nil => exact ht
  | cons c w ih =>
    rw [List.cons_append, List.dropWhile_cons, hw c (by simp), if_pos rfl, ih fun c h => hw c (by simp [h])]
/-- What may stand behind digits. -/
def NoDig (t : List UInt8) : Prop := t = [] ∨ ∃ c r, t = c :: r ∧ isDig c = false
theorem NoDig.take {t : List UInt8} (h : NoDig t) : t.takeWhile isDig = [] := by
  rcases h with rfl | ⟨c, r, rfl, h⟩
  · rfl
  · rw [List.takeWhile_cons, h]; simp
theorem NoDig.drop {t : List UInt8} (h : NoDig t) : t.dropWhile isDig = t := by
  rcases h with rfl | ⟨c, r, rfl, h⟩
  · rfl
  · rw [List.dropWhile_cons, h]; simp
def Sign (sg : List UInt8) (neg : Bool) : Prop := (sg = [] ∧ neg = false) ∨ (sg = [43] ∧ neg = false) ∨ (sg = [45] ∧ neg = true)
theorem sign_gen {sg : List UInt8} {neg : Bool} (h : Sign sg neg) {w t : List UInt8} (hw : ∀ c ∈ w, isDig c = true) (hne : w ≠ []) : signB (sg ++ (w ++ t)) = (neg, w ++ t) := by
  rcases h with ⟨rfl, rfl⟩ | ⟨rfl, rfl⟩ | ⟨rfl, rfl⟩
  · cases w with
    | nil => exact absurd rfl hne
    | cons c w =>
      have hc := hw c (by simp)
      have h1 : c ≠ 43 := fun e => by rw [e] at hc; exact absurd hc (by decide)
      have h2 : c ≠ 45 := fun e => by rw [e] at hc; exact absurd hc (by decide)
      simp [signB, h1, h2]
  · simp [signB]
  · simp [signB]
def outB (neg : Bool) (v : Nat) : Nat × Int := if v < 2047 * 2 ^ 52 then (signV neg v, 0) else (0, 5)
theorem powB_dec (neg : Bool) (w p : List UInt8) (en : Bool) (k : Nat) (hk : k ≤ 400) : powB ⟨neg, w, p, en, decN k⟩ = ((if en = true then -(k : Int) else (k : Int)), true) := by
  have h1 : numB ((decN k).dropWhile (· == 48)) = k ∧ ((decN k).dropWhile (· == 48)).length ≤ 3 := by
    by_cases h : k = 0
    · subst h; decide
    · rw [decN_head k h]
      exact ⟨numB_decN k, decN_len 3 k (by decide) (by omega)⟩
  unfold powB
  rw [if_neg (by simp only; omega)]
  simp only [h1.1]
  cases en
  · simp; omega
  · simp; omega
theorem ratB_eq (m : Int) (x : Nat) : ratB m x = (x * 10 ^ m.toNat, 10 ^ (-m).toNat) := by
  unfold ratB
  split
  · rename_i h
    rw [show (-m).toNat = 0 by omega]
  · rename_i h
    rw [show m.toNat = 0 by omega, Nat.pow_zero, Nat.mul_one]
/-- An exponent, or none. -/
def Expo (t : List UInt8) (n : Int) : Prop :=
  (t = [] ∧ n = 0) ∨ ∃ c s en k, (c = 101 ∨ c = 69) ∧ t = c :: (s ++ decN k) ∧ Sign s en ∧ k ≤ 400 ∧ n = if en = true then -(k : Int) else (k : Int)
def Part (t p : List UInt8) : Prop := (t = [] ∧ p = []) ∨ (t = 46 :: p ∧ p ≠ [] ∧ ∀ c ∈ p, isDig c = true)
theorem Expo.noDig {t : List UInt8} {n : Int} (h : Expo t n) : NoDig t := by
  rcases h with ⟨rfl, -⟩ | ⟨c, s, en, k, hc, rfl, -⟩
  · exact Or.inl rfl
  · exact Or.inr ⟨c, _, rfl, by rcases hc with rfl | rfl <;> decide⟩
theorem fin_gen (neg : Bool) (w p : List UInt8) (hne : w ≠ []) {t : List UInt8} {n : Int} (h : Expo t n) : ∃ en d, finB neg w p t = (⟨neg, w, p, en, d⟩, true) ∧ powB ⟨neg, w, p, en, d⟩ = (n, true) := by
  unfold finB
  rw [if_neg (fun h => hne h.1)]
  rcases h with ⟨rfl, rfl⟩ | ⟨c, s, en, k, hc, rfl, hs, hk, rfl⟩
  · exact ⟨false, [], rfl, rfl⟩
  · refine ⟨en, decN k, ?_, powB_dec neg w p en k hk⟩
    have hcc : ¬ (c ≠ 101 ∧ c ≠ 69) := fun ⟨h1, h2⟩ => hc.elim h1 h2
    have h1 := sign_gen hs (t := []) (decN_dig k) (decN_ne k)
    rw [List.append_nil] at h1
    have h2 := takeW (decN k) [] (decN_dig k) rfl
    have h3 := dropW (decN k) [] (decN_dig k) rfl
    rw [List.append_nil] at h2 h3
    simp only [if_neg hcc, h1, h2, h3]
    simp [decN_ne]
theorem parse_gen {sg : List UInt8} {neg : Bool} (hsg : Sign sg neg) {w : List UInt8} (hw : ∀ c ∈ w, isDig c = true) (hne : w ≠ []) {pt p : List UInt8} (hp : Part pt p) {xt : List UInt8} {n : Int} (hx : Expo xt n) (hl : w.length + p.length ≤ 60) :
    ∃ v, Near (numB (w ++ p) * 10 ^ (n - p.length).toNat) (10 ^ (-(n - p.length)).toNat) v ∧ parseB (sg ++ (w ++ (pt ++ xt))) = outB neg v := by
  have hnd : NoDig (pt ++ xt) := by
    rcases hp with ⟨rfl, -⟩ | ⟨rfl, -⟩
    · exact hx.noDig
    · exact Or.inr ⟨46, _, rfl, by decide⟩
  have h1 := sign_gen hsg (t := pt ++ xt) hw hne
  obtain ⟨en, d, h2, h3⟩ := fin_gen neg w p hne hx
  have hs : splitB (sg ++ (w ++ (pt ++ xt))) = (⟨neg, w, p, en, d⟩, true) := by
    unfold splitB
    simp only [h1, takeW w _ hw hnd.take, dropW w _ hw hnd.drop]
    rcases hp with ⟨rfl, rfl⟩ | ⟨rfl, hpn, hpd⟩
    · rw [List.nil_append]
      have hx' := hx
      rcases hx' with ⟨rfl, -⟩ | ⟨c, s, en, k, hc, rfl, -⟩
      · exact h2
      · have : c ≠ 46 := by rcases hc with rfl | rfl <;> decide
        simp only [if_neg this]
        exact h2
    · simp only [List.cons_append, if_true, takeW p _ hpd hx.noDig.take, dropW p _ hpd hx.noDig.drop, if_neg hpn]
      exact h2
  obtain ⟨v, h4, h5⟩ := bitsN_near (numB (w ++ p) * 10 ^ (n - p.length).toNat) (10 ^ (-(n - p.length)).toNat) (Nat.pow_pos (by decide))
  refine ⟨v, h4, ?_⟩
  unfold parseB outB
  rw [hs]
  simp only [h3, ratB_eq, h5]
  rw [if_neg (by decide), if_neg (by omega), if_neg (by decide)]
  unfold finN
  by_cases hv : v < 2047 * 2 ^ 52
  · simp only [if_pos hv]
    rw [if_neg (by decide)]
  · simp only [if_neg hv]
    simp
theorem expo_dec {n : Int} (h1 : -400 ≤ n) (h2 : n ≤ 400) : Expo (101 :: decI n) n := by
  right
  unfold decI
  by_cases h : n < 0
  · exact ⟨101, [45], true, n.natAbs, Or.inl rfl, by rw [if_pos h]; rfl, Or.inr (Or.inr ⟨rfl, rfl⟩), by omega, by rw [if_pos rfl]; omega⟩
  · exact ⟨101, [], false, n.toNat, Or.inl rfl, by rw [if_neg h]; rfl, Or.inl ⟨rfl, rfl⟩, by omega, by rw [if_neg (by decide)]; omega⟩
theorem sign_none : Sign [] false := Or.inl ⟨rfl, rfl⟩
theorem part_none : Part [] [] := Or.inl ⟨rfl, rfl⟩
theorem expo_none : Expo [] 0 := Or.inl ⟨rfl, rfl⟩
/-- A number's text with an exponent, and with a sign ahead. -/
theorem parse_e {sg : List UInt8} {neg : Bool} (hsg : Sign sg neg) (x : Nat) (hx : x < 10 ^ 60) {n : Int} (h1 : -400 ≤ n) (h2 : n ≤ 400) :
    ∃ v, Near (x * 10 ^ n.toNat) (10 ^ (-n).toNat) v ∧ parseB (sg ++ (decN x ++ ([101] ++ decI n))) = outB neg v := by
  have := parse_gen hsg (decN_dig x) (decN_ne x) part_none (expo_dec h1 h2) (by have := decN_len 60 x (by decide) hx; simpa using this)
  simpa [numB_decN] using this
theorem parse_d (x : Nat) (hx : x < 10 ^ 60) : ∃ v, Near x 1 v ∧ parseB (decN x) = outB false v := by
  have := parse_gen sign_none (decN_dig x) (decN_ne x) part_none expo_none (by have := decN_len 60 x (by decide) hx; simpa using this)
  simpa [numB_decN] using this
theorem parse_p (x : Nat) (hx : x < 10 ^ 50) (p : List UInt8) (hp : p ≠ []) (hd : ∀ c ∈ p, isDig c = true) (hl : p.length ≤ 10) :
    ∃ v, Near (x * 10 ^ p.length + numB p) (10 ^ p.length) v ∧ parseB (decN x ++ (46 :: p)) = outB false v := by
  have := parse_gen sign_none (decN_dig x) (decN_ne x) (Or.inr ⟨rfl, hp, hd⟩) expo_none (by have := decN_len 50 x (by decide) hx; omega)
  rw [List.append_nil, List.nil_append, numB_append, numB_decN, show ((0 : Int) - p.length).toNat = 0 by omega, show (-((0 : Int) - p.length)).toNat = p.length by omega, Nat.pow_zero, Nat.mul_one] at this
  exact this
theorem signV_false (v : Nat) : signV false v = v := rfl
theorem int_near (x : Nat) (hx : x < 2 ^ 64) : ∃ v, Near x 1 v ∧ intN (x : Int) = v ∧ v < 2047 * 2 ^ 52 := by
  obtain ⟨v, h1, h2⟩ := bitsN_near x 1 (by decide)
  have hlt : v < 2047 * 2 ^ 52 := by
    have h3 : Near (2 ^ 64) 1 (1087 * 2 ^ 52) := near_exact (by decide) (by
      have := gr_of 1086 (2 ^ 52) (by decide) (Or.inr (Nat.le_refl _))
      rw [show 1087 * 2 ^ 52 = 1086 * 2 ^ 52 + 2 ^ 52 from rfl, this, Nat.mul_one, ← Nat.pow_add]
      unfold U
      rw [← Nat.pow_add])
    have := near_mono h1 h3 (by decide) (by decide) (by omega)
    omega
  refine ⟨v, h1, ?_, hlt⟩
  unfold intN
  rw [show decide ((x : Int) < 0) = false from decide_eq_false (by omega), signV_false, Int.natAbs_natCast, h2, finN, if_pos hlt]
end Go.Dn.Dec
namespace Go.Dn.Dec
open Go.Proofs
set_option exponentiation.threshold 5000000
theorem decI_nat (x : Nat) : decI (x : Int) = decN x := by unfold decI; rw [if_neg (by omega)]; rfl
theorem tent_loop : ∀ (k n : Nat) (l : List UInt8), n < 10 ^ (k + 1) → n < 18446744073709551616 → l.length + k ≤ 1000 →
    rk Tryd.prog pol (Task.at_ 46 0 [false, true, true] (sv 17 [(0, V.d (D.i IntKind.u64 (n : Int))), (3, V.d (D.s l))]) [] []) = some (.d (.s (decN n ++ l)), [])
  | k, n, l, h, h64, hl => by
    rw [f46_at11]
    have e1 : (n : Int).tdiv 10 = ((n / 10 : Nat) : Int) := tdiv_nat n 10
    have e2 : (n : Int).tmod 10 = ((n % 10 : Nat) : Int) := tmod_nat n 10
    have w1 : IntKind.u64.wrap ((n / 10 : Nat) : Int) = ((n / 10 : Nat) : Int) := by rw [u64_wrap]; omega
    have w2 : IntKind.u64.wrap (48 + ((n % 10 : Nat) : Int)) = ((48 + n % 10 : Nat) : Int) := by rw [u64_wrap]; omega
    have w3 : IntKind.u8.wrap ((48 + n % 10 : Nat) : Int) = ((48 + n % 10 : Nat) : Int) := by rw [wrap_u8] <;> omega
    have hl1 : 1 + l.length < 4611686018427387904 := by omega
    simp only [e1, e2, w1, w2, w3, Int.toNat_natCast, interp_ift', decide_eq_true hl1, if_true, interp_brB, interp_ret, interp_call_ret]
    by_cases h9 : n < 10
    · have : ((n / 10 : Nat) : Int) == 0 := by rw [beq_iff_eq]; omega
      rw [if_pos this, decN_eq n, if_pos h9, Nat.mod_eq_of_lt h9]
    · have : ¬ (((n / 10 : Nat) : Int) == 0) = true := by rw [beq_iff_eq]; omega
      rw [if_neg this]
      cases k with
      | zero => simp at h; omega
      | succ k =>
        rw [tent_loop k (n / 10) _ (by rw [Nat.pow_succ] at h; omega) (by omega) (by simp; omega)]
        rw [decN_eq n, if_neg h9, List.append_assoc]
theorem tent_s (n : Nat) (h : n < 18446744073709551616) : rk Tryd.prog pol (Task.call 46 [V.d (D.i IntKind.u64 (n : Int))] []) = some (.d (.s (decN n)), []) := by
  rw [f46]
  have := tent_loop 20 n [] (Nat.lt_trans h (by decide)) h (by decide)
  rw [List.append_nil] at this
  simp only [interp_call_ret, this]
theorem ten_s (n : Int) (h1 : -9223372036854775808 ≤ n) (h2 : n ≤ 9223372036854775807) : rk Tryd.prog pol (Task.call 19 [V.d (D.i IntKind.i64 n)] []) = some (.d (.s (decI n)), []) := by
  rw [f19]
  by_cases h : n < 0
  · have w1 : IntKind.i64.wrap (n + 1) = n + 1 := by rw [wrap_i64] <;> omega
    have w2 : IntKind.i64.wrap (0 - (n + 1)) = 0 - (n + 1) := by rw [wrap_i64] <;> omega
    have w : IntKind.u64.wrap (IntKind.u64.wrap (IntKind.i64.wrap (0 - IntKind.i64.wrap (n + 1))) + 1) = (n.natAbs : Int) := by
      rw [w1, w2, u64_wrap, u64_wrap]; omega
    have ht := tent_s n.natAbs (by omega)
    have hl := decN_len 20 n.natAbs (by decide) (by simp; omega)
    have hl1 : 1 + (decN n.natAbs).length < 4611686018427387904 := by omega
    simp only [interp_brB, decide_eq_true h, if_true, w, interp_call', ht, Option.bind_some, List.isEmpty_nil, interp_ift', asD_d, asS_s, decide_eq_true hl1, interp_ret]
    unfold decI
    rw [if_pos h]; rfl
  · have w : IntKind.u64.wrap n = (n.toNat : Int) := by rw [u64_wrap]; omega
    have ht := tent_s n.toNat (by omega)
    simp only [interp_brB, decide_eq_false h, Bool.false_eq_true, if_false, w, interp_call', ht, Option.bind_some, List.isEmpty_nil, interp_ift', if_true, asD_d, asS_s, interp_ret]
    unfold decI
    rw [if_neg h]
theorem tenN_s (n : Nat) (h2 : n ≤ 9223372036854775807) : rk Tryd.prog pol (Task.call 19 [V.d (D.i IntKind.i64 (n : Int))] []) = some (.d (.s (decN n)), []) := by
  rw [ten_s n (by omega) (by omega), decI_nat]
/-! ### DecOrder -/
theorem order_end1 (x y v w u : Int) (g : Int) : rk Tryd.prog pol (Task.at_ 6 0 [true, false, true, true, true, true, true, true, true]
    (sv 107 [(7, V.d (D.i IntKind.u64 x)), (8, V.d (D.i IntKind.u64 y)), (10, V.d (D.i IntKind.u64 v)), (11, V.d (D.i IntKind.i64 5)), (12, V.d (D.i IntKind.u64 w)), (13, V.d (D.i IntKind.i64 g)), (14, V.d (D.i IntKind.u64 u)), (15, V.d (D.i IntKind.i64 5)), (64, V.d (D.b true))]) [] []) = some (.d (.b true), []) := by
  rw [f6_at895]
  rfl
theorem order_end2 (x y v w u : Int) : rk Tryd.prog pol (Task.at_ 6 0 [true, false, true, true, true, true, true, true, true]
    (sv 107 [(7, V.d (D.i IntKind.u64 x)), (8, V.d (D.i IntKind.u64 y)), (10, V.d (D.i IntKind.u64 v)), (11, V.d (D.i IntKind.i64 0)), (12, V.d (D.i IntKind.u64 w)), (13, V.d (D.i IntKind.i64 5)), (14, V.d (D.i IntKind.u64 u)), (15, V.d (D.i IntKind.i64 0)), (64, V.d (D.b true))]) [] []) = some (.d (.b true), []) := by
  rw [f6_at895]
  rfl
theorem order_end3 (x y v w u : Int) (hu : (u == IntKind.u64.wrap (((BitVec.ofInt IntKind.u64.bits v ||| BitVec.ofInt IntKind.u64.bits 9223372036854775808).toNat : Nat) : Int)) = true) (h1 : x ≤ y → v ≤ w) (h2 : y ≤ x → w ≤ v) : rk Tryd.prog pol (Task.at_ 6 0 [true, false, true, true, true, true, true, true, true]
    (sv 107 [(7, V.d (D.i IntKind.u64 x)), (8, V.d (D.i IntKind.u64 y)), (10, V.d (D.i IntKind.u64 v)), (11, V.d (D.i IntKind.i64 0)), (12, V.d (D.i IntKind.u64 w)), (13, V.d (D.i IntKind.i64 0)), (14, V.d (D.i IntKind.u64 u)), (15, V.d (D.i IntKind.i64 0)), (64, V.d (D.b false))]) [] []) = some (.d (.b true), []) := by
  rw [f6_at895]
  simp only [interp_brB, Bool.false_eq_true, if_false, hu, if_true, interp_ret]
  by_cases a : x > y
  · have b : ¬ x < y := by omega
    have c : v ≥ w := h2 (by omega)
    simp only [decide_eq_true a, decide_eq_false b, decide_eq_true c, if_true, Bool.false_eq_true, if_false]
  · have c : v ≤ w := h1 (by omega)
    by_cases b : x < y
    · simp only [decide_eq_false a, decide_eq_true b, decide_eq_true c, if_true, Bool.false_eq_true, if_false]
    · have d : v ≥ w := h2 (by omega)
      simp only [decide_eq_false a, decide_eq_false b, decide_eq_true c, decide_eq_true d, if_true, Bool.false_eq_true, if_false]
theorem order_rat {x y : Nat} {n : Int} : ∃ v w, (x ≤ y → v ≤ w) ∧ (y ≤ x → w ≤ v) ∧ (x < 10 ^ 60 → -400 ≤ n → n ≤ 400 → parseB (decN x ++ ([101] ++ decI n)) = outB false v ∧ parseB ([45] ++ decN x ++ ([101] ++ decI n)) = outB true v) ∧ (y < 10 ^ 60 → -400 ≤ n → n ≤ 400 → parseB (decN y ++ ([101] ++ decI n)) = outB false w) := by
  have h10 : 0 < 10 ^ (-n).toNat := Nat.pow_pos (by decide)
  obtain ⟨v, nv, -⟩ := bitsN_near (x * 10 ^ n.toNat) (10 ^ (-n).toNat) h10
  obtain ⟨w, nw, -⟩ := bitsN_near (y * 10 ^ n.toNat) (10 ^ (-n).toNat) h10
  refine ⟨v, w, fun h => near_mono nv nw h10 h10 (Nat.mul_le_mul_right _ (Nat.mul_le_mul_right _ h)), fun h => near_mono nw nv h10 h10 (Nat.mul_le_mul_right _ (Nat.mul_le_mul_right _ h)), fun hx h1 h2 => ⟨?_, ?_⟩, fun hy h1 h2 => ?_⟩
  · obtain ⟨u, nu, p⟩ := parse_e sign_none x hx h1 h2
    rw [near_eq nv nu h10 h10 rfl]; exact p
  · obtain ⟨u, nu, p⟩ := parse_e (sg := [45]) (neg := true) (Or.inr (Or.inr ⟨rfl, rfl⟩)) x hx h1 h2
    rw [near_eq nv nu h10 h10 rfl, List.append_assoc]; exact p
  · obtain ⟨u, nu, p⟩ := parse_e sign_none y hy h1 h2
    rw [near_eq nw nu h10 h10 rfl]; exact p
theorem order_main (a b e : Int) (x y : Nat) (n : Int) (ex : a.tmod 1000000000000000000 = (x : Int)) (ey : b.tmod 1000000000000000000 = (y : Int)) (en : e.tmod 300 = n) (hx : x < 1000000000000000000) (hy : y < 1000000000000000000) (h1 : -400 ≤ n) (h2 : n ≤ 400) :
    rk Tryd.prog pol (Task.call 6 [V.d (D.i IntKind.u64 a), V.d (D.i IntKind.u64 b), V.d (D.i IntKind.i16 e)] []) = some (.d (.b true), []) := by
  rw [f6, ex, ey, en]
  have wn : IntKind.i64.wrap n = n := by rw [wrap_i64] <;> omega
  have wx : IntKind.i64.wrap (x : Int) = (x : Int) := by rw [wrap_i64] <;> omega
  have wy : IntKind.i64.wrap (y : Int) = (y : Int) := by rw [wrap_i64] <;> omega
  have tn := ten_s n (by omega) (by omega)
  have tx := tenN_s x (by omega)
  have ty := tenN_s y (by omega)
  have ln := decI_len (n := n) (by omega) (by omega)
  have lx := decN_len 20 x (by decide) (Nat.lt_trans hx (by decide))
  have ly := decN_len 20 y (by decide) (Nat.lt_trans hy (by decide))
  obtain ⟨v, w, m1, m2, p1, p2⟩ := @order_rat x y n
  obtain ⟨p1, p3⟩ := p1 (Nat.lt_trans hx (by decide)) h1 h2
  have p2 := p2 (Nat.lt_trans hy (by decide)) h1 h2
  have s1 := parse_s (decN x ++ ([101] ++ decI n)) (by simp; omega)
  have s2 := parse_s (decN y ++ ([101] ++ decI n)) (by simp; omega)
  have s3 := parse_s ([45] ++ decN x ++ ([101] ++ decI n)) (by simp; omega)
  rw [p1] at s1
  rw [p2] at s2
  rw [p3] at s3
  have l1 : 1 + (decI n).length < 4611686018427387904 := by omega
  have l2 : (decN x).length + ([101] ++ decI n).length < 4611686018427387904 := by simp; omega
  have l3 : (decN y).length + ([101] ++ decI n).length < 4611686018427387904 := by simp; omega
  have l4 : 1 + (decN x).length < 4611686018427387904 := by omega
  have l5 : ([45] ++ decN x).length + ([101] ++ decI n).length < 4611686018427387904 := by simp; omega
  generalize decN x = dx at *
  generalize decN y = dy at *
  generalize decI n = dn at *
  clear p1 p2 p3 lx ly ln
  unfold outB at s1 s2 s3
  rw [wn, wx, wy]
  by_cases hv : v < 2047 * 2 ^ 52
  · have hsg := (sign_or (v := v) (by omega)).1
    rw [if_pos hv] at s1 s3
    have hu : (((v ||| 2 ^ 63 : Nat) : Int) == IntKind.u64.wrap (((BitVec.ofInt IntKind.u64.bits (v : Int) ||| BitVec.ofInt IntKind.u64.bits 9223372036854775808).toNat : Nat) : Int)) = true := by rw [hsg]; exact beq_self_eq_true _
    have e3 : signV true v = v ||| 2 ^ 63 := rfl
    rw [e3] at s3
    rw [signV_false] at s1
    generalize (v ||| 2 ^ 63 : Nat) = u at s3 hu
    by_cases hw : w < 2047 * 2 ^ 52
    · rw [if_pos hw] at s2
      rw [signV_false] at s2
      have fin := order_end3 x y v w u hu (fun h => by have := m1 (by omega); omega) (fun h => by have := m2 (by omega); omega)
      rw [st_B begun_s, st_nt, st_S tn, st_if l1, st_S tx, st_if l2, st_II s1, st_S ty, st_if l3, st_II s2, st_S tx, st_if l4, st_if l5, st_II s3, st_ne_f rfl, st_ne_f rfl, interp_call_ret]
      exact fin
    · rw [if_neg hw] at s2
      rw [st_B begun_s, st_nt, st_S tn, st_if l1, st_S tx, st_if l2, st_II s1, st_S ty, st_if l3, st_II s2, st_S tx, st_if l4, st_if l5, st_II s3, st_ne_f rfl, st_ne_t (by decide), interp_call_ret]
      exact order_end2 x y v _ u
  · rw [if_neg hv] at s1 s3
    rw [st_B begun_s, st_nt, st_S tn, st_if l1, st_S tx, st_if l2, st_II s1, st_S ty, st_if l3, st_II s2, st_S tx, st_if l4, st_if l5, st_II s3, st_ne_t (by decide), interp_call_ret]
    exact order_end1 x y _ _ _ _
theorem order_s (a b : Nat) (e : Int) (he1 : -32768 ≤ e) (he2 : e ≤ 32767) : rk Tryd.prog pol (Task.call 6 [V.d (D.i IntKind.u64 (a : Int)), V.d (D.i IntKind.u64 (b : Int)), V.d (D.i IntKind.i16 e)] []) = some (.d (.b true), []) := by
  have hn : -400 ≤ e.tmod 300 ∧ e.tmod 300 ≤ 400 := by
    rcases Int.le_total 0 e with h | h
    · rw [Int.tmod_eq_emod_of_nonneg h]; omega
    · have : e = -(-e) := by omega
      rw [this, Int.neg_tmod, Int.tmod_eq_emod_of_nonneg (by omega)]; omega
  exact order_main a b e _ _ _ (tmod_nat a 1000000000000000000) (tmod_nat b 1000000000000000000) rfl (Nat.mod_lt _ (by decide)) (Nat.mod_lt _ (by decide)) hn.1 hn.2
end Go.Dn.Dec
namespace Go.Dn.Dec
open Go.Proofs
set_option exponentiation.threshold 5000000
theorem gr_double {v : Nat} (h : 2 ^ 52 ≤ v) : gr (v + 2 ^ 52) = 2 * gr v := by
  unfold gr
  rw [if_neg (by omega), if_neg (by omega), show (v + 2 ^ 52) % 2 ^ 52 = v % 2 ^ 52 by omega, show (v + 2 ^ 52) / 2 ^ 52 - 1 = (v / 2 ^ 52 - 1) + 1 by omega]
  generalize v % 2 ^ 52 + 2 ^ 52 = a
  generalize v / 2 ^ 52 - 1 = k
  rw [Nat.pow_succ, ← Nat.mul_assoc, Nat.mul_comm]
theorem mid_double {v : Nat} (h : 2 ^ 52 ≤ v) : mid (v + 2 ^ 52) = 2 * mid v := by
  unfold mid
  rw [gr_double h, show v + 2 ^ 52 + 1 = v + 1 + 2 ^ 52 by omega, gr_double (by omega), Nat.mul_add]
theorem near_double {x y v : Nat} (hv : 2 ^ 52 < v) (h : Near x y v) : Near (2 * x) y (v + 2 ^ 52) := by
  have e1 := mid_double (v := v) (by omega)
  have e2 := mid_double (v := v - 1) (by omega)
  rw [show v - 1 + 2 ^ 52 = v + 2 ^ 52 - 1 by omega] at e2
  have a1 : 2 * (2 * x) * U = 2 * (2 * x * U) := Nat.mul_assoc _ _ _
  have a2 : mid (v + 2 ^ 52) * y = 2 * (mid v * y) := by rw [e1, Nat.mul_assoc]
  have a3 : mid (v + 2 ^ 52 - 1) * y = 2 * (mid (v - 1) * y) := by rw [e2, Nat.mul_assoc]
  unfold Near at h ⊢
  rw [a1, a2, a3]
  generalize mid v * y = p at *
  generalize mid (v - 1) * y = q at *
  generalize 2 * x * U = r at *
  omega
theorem U_big : 2 ^ 53 * 2 ^ 500 ≤ U := by
  unfold U
  rw [← Nat.pow_add]
  exact Nat.pow_le_pow_right (by decide) (by decide)
theorem ten_le (k : Nat) : 10 ^ k ≤ 2 ^ (4 * k) := by
  rw [Nat.pow_mul]; exact Nat.pow_le_pow_left (by decide) k
theorem near_low {x y v : Nat} (h : Near x y v) (hy : 0 < y) (hle : 2 ^ 53 * y ≤ x * U) : 2 * 2 ^ 52 ≤ v := by
  have h0 : Near (2 ^ 53) U (2 * 2 ^ 52) := near_exact U_pos (by
    have := gr_of 1 (2 ^ 52) (by decide) (Or.inr (Nat.le_refl _))
    have e : 2 * 2 ^ 52 = 1 * 2 ^ 52 + 2 ^ 52 := by decide
    rw [e, this])
  exact near_mono h0 h U_pos hy hle
theorem near_high {x y v : Nat} (h : Near x y v) (hy : 0 < y) (hle : x ≤ 2 ^ 900 * y) : v ≤ 1923 * 2 ^ 52 := by
  have h0 : Near (2 ^ 900) 1 (1923 * 2 ^ 52) := near_exact (by decide) (by
    have := gr_of 1922 (2 ^ 52) (by decide) (Or.inr (Nat.le_refl _))
    have e : 1923 * 2 ^ 52 = 1922 * 2 ^ 52 + 2 ^ 52 := by decide
    rw [e, this, Nat.mul_one, ← Nat.pow_add]
    unfold U
    rw [← Nat.pow_add])
  exact near_mono h h0 hy (by decide) (by omega)
theorem scales_rat {x : Nat} {n : Int} (h0 : 0 < x) (hx : x < 10 ^ 30) (h1 : -100 ≤ n) (h2 : n ≤ 100) : ∃ v, v + 2 ^ 52 < 2047 * 2 ^ 52 ∧ parseB (decN x ++ ([101] ++ decI n)) = outB false v ∧ parseB (decN (2 * x) ++ ([101] ++ decI n)) = outB false (v + 2 ^ 52) := by
  have h10 : 0 < 10 ^ (-n).toNat := Nat.pow_pos (by decide)
  have hp : 0 < 10 ^ n.toNat := Nat.pow_pos (by decide)
  obtain ⟨v, nv, p⟩ := parse_e sign_none x (Nat.lt_trans hx (by decide)) (n := n) (by omega) (by omega)
  obtain ⟨w, nw, q⟩ := parse_e sign_none (2 * x) (Nat.lt_of_lt_of_le (show 2 * x < 2 * 10 ^ 30 by omega) (by decide)) (n := n) (by omega) (by omega)
  have b1 : 10 ^ (-n).toNat ≤ 2 ^ 400 := Nat.le_trans (ten_le _) (Nat.pow_le_pow_right (by decide) (by omega))
  have b2 : 10 ^ n.toNat ≤ 2 ^ 400 := Nat.le_trans (ten_le _) (Nat.pow_le_pow_right (by decide) (by omega))
  have b3 : (2 : Nat) ^ 400 ≤ 2 ^ 500 := Nat.pow_le_pow_right (by decide) (by decide)
  have lo := near_low nv h10 (by
    have := U_big
    have c1 : 2 ^ 53 * 10 ^ (-n).toNat ≤ 2 ^ 53 * 2 ^ 500 := Nat.mul_le_mul_left _ (Nat.le_trans b1 b3)
    have c2 : U ≤ x * 10 ^ n.toNat * U := Nat.le_mul_of_pos_left _ (Nat.mul_pos h0 hp)
    omega)
  have d1 := near_double (by omega) nv
  have hi := near_high d1 h10 (by
    have c1 : 2 * (x * 10 ^ n.toNat) ≤ 2 * (10 ^ 30 * 2 ^ 400) := Nat.mul_le_mul_left _ (Nat.mul_le_mul (Nat.le_of_lt hx) b2)
    have c2 : (2 : Nat) * (10 ^ 30 * 2 ^ 400) ≤ 2 ^ 900 := by
      have : (2 : Nat) * (10 ^ 30 * 2 ^ 400) ≤ 2 * (2 ^ (4 * 30) * 2 ^ 400) := Nat.mul_le_mul_left _ (Nat.mul_le_mul_right _ (ten_le 30))
      have e : (2 : Nat) * (2 ^ (4 * 30) * 2 ^ 400) = 2 ^ 521 := by
        rw [← Nat.pow_add, Nat.mul_comm, ← Nat.pow_succ]
      have : (2 : Nat) ^ 521 ≤ 2 ^ 900 := Nat.pow_le_pow_right (by decide) (by decide)
      omega
    have c3 : 2 ^ 900 ≤ 2 ^ 900 * 10 ^ (-n).toNat := Nat.le_mul_of_pos_right _ h10
    exact Nat.le_trans c1 (Nat.le_trans c2 c3))
  have e : w = v + 2 ^ 52 := near_eq nw d1 h10 h10 (by rw [Nat.mul_assoc 2 x])
  rw [List.nil_append] at p q
  exact ⟨v, by omega, p, e ▸ q⟩
theorem scales_main (a k : Int) (x : Nat) (n : Int) (ex : 1 + a.tmod 100000000000000000 = (x : Int)) (en : k.tmod 200 - 100 = n) (h0 : 0 < x) (hx : x ≤ 100000000000000000) (h1 : -100 ≤ n) (h2 : n ≤ 100) :
    rk Tryd.prog pol (Task.call 11 [V.d (D.i IntKind.u64 a), V.d (D.i IntKind.u8 k)] []) = some (.d (.b true), []) := by
  have wk : IntKind.i64.wrap (k.tmod 200) = k.tmod 200 := by rw [wrap_i64] <;> omega
  have wn : IntKind.i64.wrap n = n := by rw [wrap_i64] <;> omega
  have wx : IntKind.u64.wrap (x : Int) = (x : Int) := by rw [u64_wrap]; omega
  have wx2 : IntKind.u64.wrap (2 * (x : Int)) = ((2 * x : Nat) : Int) := by rw [u64_wrap]; omega
  have wx3 : IntKind.i64.wrap (x : Int) = (x : Int) := by rw [wrap_i64] <;> omega
  have wx4 : IntKind.i64.wrap ((2 * x : Nat) : Int) = ((2 * x : Nat) : Int) := by rw [wrap_i64] <;> omega
  rw [f11, ex, wk, en, wn, wx, wx2, wx3, wx4]
  have tn := ten_s n (by omega) (by omega)
  have tx := tenN_s x (by omega)
  have ty := tenN_s (2 * x) (by omega)
  have ln := decI_len (n := n) (by omega) (by omega)
  have lx := decN_len 20 x (by decide) (Nat.lt_of_le_of_lt hx (by decide))
  have ly := decN_len 20 (2 * x) (by decide) (Nat.lt_of_le_of_lt (show 2 * x ≤ 200000000000000000 by omega) (by decide))
  obtain ⟨v, hv, p1, p2⟩ := scales_rat h0 (Nat.lt_of_le_of_lt hx (by decide)) h1 h2
  have s1 := parse_s (decN x ++ ([101] ++ decI n)) (by simp; omega)
  have s2 := parse_s (decN (2 * x) ++ ([101] ++ decI n)) (by simp; omega)
  rw [p1, outB, if_pos (by omega), signV_false] at s1
  rw [p2, outB, if_pos hv, signV_false] at s2
  have l1 : 1 + (decI n).length < 4611686018427387904 := by omega
  have l2 : (decN x).length + ([101] ++ decI n).length < 4611686018427387904 := by simp; omega
  have l3 : (decN (2 * x)).length + ([101] ++ decI n).length < 4611686018427387904 := by simp; omega
  rw [st_B begun_s, st_nt, st_S tn, st_if l1, st_S tx, st_if l2, st_II s1, st_S ty, st_if l3, st_II s2, st_eq rfl, st_eq rfl, interp_ret]
  have : (((v + 2 ^ 52 : Nat) : Int) == IntKind.u64.wrap ((v : Int) + 4503599627370496)) = true := by
    rw [beq_iff_eq, u64_wrap]; omega
  rw [this]
theorem scales_s (a k : Nat) : rk Tryd.prog pol (Task.call 11 [V.d (D.i IntKind.u64 (a : Int)), V.d (D.i IntKind.u8 (k : Int))] []) = some (.d (.b true), []) := by
  have h1 : a % 100000000000000000 < 100000000000000000 := Nat.mod_lt _ (by decide)
  have h2 : (k : Int).tmod 200 = ((k % 200 : Nat) : Int) := tmod_nat k 200
  exact scales_main a k (1 + a % 100000000000000000) _ (by rw [show (a : Int).tmod 100000000000000000 = ((a % 100000000000000000 : Nat) : Int) from tmod_nat a 100000000000000000]; omega) rfl (by omega) (by omega) (by omega) (by omega)
/-! ### DecHalves -/
theorem near_above {x y v : Nat} (hy : 0 < y) (h1 : gr v * y ≤ x * U) (h2 : 2 * x * U < mid v * y) : Near x y v := by
  refine near_in h2 ?_
  rcases Nat.eq_zero_or_pos v with h | h
  · exact Or.inl h
  · right
    have hm : mid (v - 1) < 2 * gr v := by
      have := gr_lt (v - 1)
      unfold mid
      rw [Nat.sub_add_cancel h] at this ⊢
      omega
    have a : mid (v - 1) * y < 2 * gr v * y := Nat.mul_lt_mul_of_pos_right hm hy
    have b : 2 * gr v * y = 2 * (gr v * y) := Nat.mul_assoc _ _ _
    have c : 2 * x * U = 2 * (x * U) := Nat.mul_assoc _ _ _
    omega
theorem near_below {x y v : Nat} (hy : 0 < y) (h1 : x * U ≤ gr v * y) (h2 : mid (v - 1) * y < 2 * x * U) : Near x y v := by
  refine near_in ?_ (Or.inr h2)
  have hm : 2 * gr v < mid v := by
    have := gr_lt v
    unfold mid; omega
  have a : 2 * gr v * y < mid v * y := Nat.mul_lt_mul_of_pos_right hm hy
  have b : 2 * gr v * y = 2 * (gr v * y) := Nat.mul_assoc _ _ _
  have c : 2 * x * U = 2 * (x * U) := Nat.mul_assoc _ _ _
  omega
theorem halves_at (m : Nat) (h1 : 2 ^ 52 ≤ m) (h2 : m < 2 ^ 53) : gr (1074 * 2 ^ 52 + m) = m * U ∧ mid (1074 * 2 ^ 52 + m) = (2 * m + 1) * U ∧ gr (1074 * 2 ^ 52 + m + 1) = (m + 1) * U :=
  ⟨gr_of 1074 m (by omega) (Or.inr h1), mid_at 1074 m h2 (Or.inr h1), gr_next 1074 m h2 (Or.inr h1)⟩
theorem mulU (a b : Nat) (h : a < b) : a * U < b * U := Nat.mul_lt_mul_of_pos_right h U_pos
theorem mulUl (a b : Nat) (h : a ≤ b) : a * U ≤ b * U := Nat.mul_le_mul_right _ h
theorem half_0 (m : Nat) (h1 : 2 ^ 52 ≤ m) (h2 : m < 2 ^ 53) : Near (m * 10 + 5) 10 (1074 * 2 ^ 52 + m + m % 2) := by
  obtain ⟨e1, e2, e3⟩ := halves_at m h1 h2
  have e : 2 * (m * 10 + 5) * U = mid (1074 * 2 ^ 52 + m) * 10 := by rw [e2, ac2 (2 * m + 1) U, show 2 * (m * 10 + 5) = (2 * m + 1) * 10 by omega]
  rcases Nat.mod_two_eq_zero_or_one m with h | h
  · rw [h, Nat.add_zero]
    refine ⟨Or.inr ⟨e, by omega⟩, Or.inr (Or.inl ?_)⟩
    rw [e]
    exact Nat.mul_lt_mul_of_pos_right (mid_lt_of (by omega)) (by decide)
  · rw [h]
    refine ⟨Or.inl ?_, Or.inr (Or.inr ⟨?_, by omega⟩)⟩
    · rw [e]; exact Nat.mul_lt_mul_of_pos_right (mid_lt_of (by omega)) (by decide)
    · rw [Nat.add_sub_cancel, e]
theorem half_1 (m : Nat) (h1 : 2 ^ 52 ≤ m) (h2 : m < 2 ^ 53) : Near (m * 1000000000 + 500000001) 1000000000 (1074 * 2 ^ 52 + m + 1) := by
  obtain ⟨e1, e2, e3⟩ := halves_at m h1 h2
  refine near_below (by decide) ?_ ?_
  · rw [e3, ac2 (m + 1) U]; exact mulUl _ _ (by omega)
  · rw [Nat.add_sub_cancel, e2, ac2 (2 * m + 1) U]; exact mulU _ _ (by omega)
theorem half_2 (m : Nat) (h1 : 2 ^ 52 ≤ m) (h2 : m < 2 ^ 53) : Near (m * 1000000000 + 499999999) 1000000000 (1074 * 2 ^ 52 + m) := by
  obtain ⟨e1, e2, e3⟩ := halves_at m h1 h2
  refine near_above (by decide) ?_ ?_
  · rw [e1, ac2 m U]; exact mulUl _ _ (by omega)
  · rw [e2, ac2 (2 * m + 1) U]; exact mulU _ _ (by omega)
theorem half_parse (m : Nat) (h2 : m < 2 ^ 53) (p : List UInt8) (hp : p ≠ []) (hd : ∀ c ∈ p, isDig c = true) (hl : p.length ≤ 10) (v : Nat) (hv : Near (m * 10 ^ p.length + numB p) (10 ^ p.length) v) (hlt : v < 2047 * 2 ^ 52) :
    parseB (decN m ++ (46 :: p)) = (v, 0) := by
  obtain ⟨w, nw, q⟩ := parse_p m (Nat.lt_trans h2 (by decide)) p hp hd hl
  have h10 : 0 < 10 ^ p.length := Nat.pow_pos (by decide)
  rw [near_eq nw hv h10 h10 rfl] at q
  rw [q, outB, if_pos hlt, signV_false]
theorem f10_end (v : Nat) (w : Int) (h : w = (v : Int)) : rk Tryd.prog pol (Task.at_ 10 0 [true, true, true, true, true, true, true, true, true] (sv 55 [(8, V.d (D.i IntKind.u64 (v : Int))), (9, V.d (D.i IntKind.i64 0)), (11, V.d (D.i IntKind.u64 w))]) [] []) = some (.d (.b true), []) := by
  rw [f10_at1023, st_eq rfl, interp_ret, h, beq_self_eq_true]
theorem cells0_s (x : List UInt8) : (D.s x).cells[0]? = some (D.s x) := rfl
theorem width1_s (x : List UInt8) : ((D.s x).width == 1) = true := rfl
theorem halves_main (a k : Int) (m r : Nat) (em : 4503599627370496 + a.tmod 4503599627370496 = (m : Int)) (ek : k.tmod 3 = (r : Int)) (h1 : 2 ^ 52 ≤ m) (h2 : m < 2 ^ 53) (hr : r < 3) :
    rk Tryd.prog pol (Task.call 10 [V.d (D.i IntKind.u64 a), V.d (D.i IntKind.u8 k)] []) = some (.d (.b true), []) := by
  have wm : IntKind.u64.wrap (m : Int) = (m : Int) := by rw [u64_wrap]; omega
  have wm2 : IntKind.i64.wrap (m : Int) = (m : Int) := by rw [wrap_i64] <;> omega
  have wm3 : IntKind.u64.wrap ((m : Int) - 4503599627370496) = ((m - 2 ^ 52 : Nat) : Int) := by rw [u64_wrap]; omega
  have hor : (BitVec.ofInt IntKind.u64.bits 4841369599423283200 ||| BitVec.ofInt IntKind.u64.bits ((m - 2 ^ 52 : Nat) : Int)).toNat = 1074 * 2 ^ 52 + m := by
    have e := or_mul (a := 1075) (b := m - 2 ^ 52) (k := 52) (by omega)
    have q : 1075 * 2 ^ 52 = 4841369599423283200 := by decide
    rw [q] at e
    have := or_nat (a := 4841369599423283200) (b := m - 2 ^ 52) (by decide) (by omega)
    rw [e] at this
    refine Eq.trans this ?_
    omega
  have wl : IntKind.u64.wrap ((1074 * 2 ^ 52 + m : Nat) : Int) = ((1074 * 2 ^ 52 + m : Nat) : Int) := by rw [u64_wrap]; omega
  have em2 : (m : Int).tmod 2 = ((m % 2 : Nat) : Int) := tmod_nat m 2
  rw [f10, em, ek, wm, wm2, wm3, hor, wl, em2]
  have tx := tenN_s m (by omega)
  have lx := decN_len 20 m (by decide) (Nat.lt_trans h2 (by decide))
  rw [st_B begun_s, st_nt, st_S tx]
  rw [getI_nat, Int.toNat_natCast]
  match r, hr with
  | 0, _ =>
    have hg : [D.s [46, 53], D.s [46, 53, 48, 48, 48, 48, 48, 48, 48, 49], D.s [46, 52, 57, 57, 57, 57, 57, 57, 57, 57]][0]? = some (D.s [46, 53]) := rfl
    have p := half_parse m h2 [53] (by decide) (by decide) (by decide) (1074 * 2 ^ 52 + m + m % 2) (half_0 m h1 h2) (by omega)
    have s := parse_s (decN m ++ [46, 53]) (by simp; omega)
    rw [p] at s
    have l : (decN m).length + [(46 : UInt8), 53].length < 4611686018427387904 := by simp; omega
    rw [st_ob hg, width1_s, st_ift, st_ob hg, st_ob (cells0_s _), asS_s, st_if l, st_II s, st_eq (show ((0 : Nat) : Int) = 0 from rfl), interp_call_ret]
    exact f10_end _ _ (by rw [u64_wrap]; omega)
  | 1, _ =>
    have hg : [D.s [46, 53], D.s [46, 53, 48, 48, 48, 48, 48, 48, 48, 49], D.s [46, 52, 57, 57, 57, 57, 57, 57, 57, 57]][1]? = some (D.s [46, 53, 48, 48, 48, 48, 48, 48, 48, 49]) := rfl
    have p := half_parse m h2 [53, 48, 48, 48, 48, 48, 48, 48, 49] (by decide) (by decide) (by decide) (1074 * 2 ^ 52 + m + 1) (half_1 m h1 h2) (by omega)
    have s := parse_s (decN m ++ [46, 53, 48, 48, 48, 48, 48, 48, 48, 49]) (by simp; omega)
    rw [p] at s
    have l : (decN m).length + [(46 : UInt8), 53, 48, 48, 48, 48, 48, 48, 48, 49].length < 4611686018427387904 := by simp; omega
    rw [st_ob hg, width1_s, st_ift, st_ob hg, st_ob (cells0_s _), asS_s, st_if l, st_II s, st_ne (show ((1 : Nat) : Int) ≠ 0 by decide), st_eq (show ((1 : Nat) : Int) = 1 from rfl), interp_call_ret]
    exact f10_end _ _ (by rw [u64_wrap]; omega)
  | 2, _ =>
    have hg : [D.s [46, 53], D.s [46, 53, 48, 48, 48, 48, 48, 48, 48, 49], D.s [46, 52, 57, 57, 57, 57, 57, 57, 57, 57]][2]? = some (D.s [46, 52, 57, 57, 57, 57, 57, 57, 57, 57]) := rfl
    have p := half_parse m h2 [52, 57, 57, 57, 57, 57, 57, 57, 57] (by decide) (by decide) (by decide) (1074 * 2 ^ 52 + m) (half_2 m h1 h2) (by omega)
    have s := parse_s (decN m ++ [46, 52, 57, 57, 57, 57, 57, 57, 57, 57]) (by simp; omega)
    rw [p] at s
    have l : (decN m).length + [(46 : UInt8), 52, 57, 57, 57, 57, 57, 57, 57, 57].length < 4611686018427387904 := by simp; omega
    rw [st_ob hg, width1_s, st_ift, st_ob hg, st_ob (cells0_s _), asS_s, st_if l, st_II s, st_ne (show ((2 : Nat) : Int) ≠ 0 by decide), st_ne (show ((2 : Nat) : Int) ≠ 1 by decide), interp_call_ret]
    exact f10_end _ _ rfl
theorem halves_s (a k : Nat) : rk Tryd.prog pol (Task.call 10 [V.d (D.i IntKind.u64 (a : Int)), V.d (D.i IntKind.u8 (k : Int))] []) = some (.d (.b true), []) := by
  have h1 : a % 4503599627370496 < 4503599627370496 := Nat.mod_lt _ (by decide)
  exact halves_main a k (4503599627370496 + a % 4503599627370496) (k % 3) (by rw [show (a : Int).tmod 4503599627370496 = ((a % 4503599627370496 : Nat) : Int) from tmod_nat a 4503599627370496]; omega) (tmod_nat k 3) (by omega) (by omega) (Nat.mod_lt _ (by decide))
end Go.Dn.Dec
namespace Go.Dn.Dec
open Go.Proofs
set_option exponentiation.threshold 5000000
/-! ### DecExact -/
theorem at_pow (x j : Nat) (hj : j ≤ 52) (h1 : 2 ^ 52 ≤ x * 2 ^ j) (h2 : x * 2 ^ j < 2 ^ 53) : gr ((1074 - j) * 2 ^ 52 + x * 2 ^ j) = x * U := by
  rw [gr_of (1074 - j) (x * 2 ^ j) (by omega) (Or.inr h1), U_split (k := j) (by omega), Nat.mul_assoc, Nat.mul_comm (2 ^ j)]
theorem exact_ex (x : Nat) (h0 : 0 < x) (h : x < 2 ^ 53) : ∃ B, gr B = x * U ∧ 1023 * 2 ^ 52 ≤ B ∧ B < 1100 * 2 ^ 52 := by
  have h1 := blen_le x (by omega)
  have h2 := lt_blen x
  have h3 := (blen_le_iff x 53).2 h
  have h4 := blen_pos (n := x) (by omega)
  have e1 : 2 ^ (blen x - 1) * 2 ^ (53 - blen x) = 2 ^ 52 := by rw [← Nat.pow_add]; congr 1; omega
  have e2 : 2 ^ (blen x) * 2 ^ (53 - blen x) = 2 ^ 53 := by rw [← Nat.pow_add]; congr 1; omega
  have l1 := Nat.mul_le_mul_right (2 ^ (53 - blen x)) h1
  have l2 := Nat.mul_lt_mul_of_pos_right h2 (show 0 < 2 ^ (53 - blen x) from Nat.pow_pos (by decide))
  rw [e1] at l1
  rw [e2] at l2
  have hg := at_pow x (53 - blen x) (by omega) l1 l2
  refine ⟨_, hg, ?_, ?_⟩ <;> omega
def bitsTask (half : Bool) (x B : Nat) : Task := Task.at_ 8 0 [true, true, true, true, true] (sv 86 [(1, V.d (D.b half)), (5, V.d (D.i IntKind.u64 (x : Int))), (6, V.d (D.i IntKind.u64 (B : Int)))]) [] []
theorem exact_loop (half : Bool) (x : Nat) (h0 : 0 < x) : ∀ (d j : Nat), d + j = 53 → x * 2 ^ j < 2 ^ 53 → ∃ B, gr B = x * U ∧ B < 1100 * 2 ^ 52 ∧
    rk Tryd.prog pol (Task.at_ 8 0 [false, false, true, true, false, true, false, true, true, true, true] (sv 86 [(1, V.d (D.b half)), (5, V.d (D.i IntKind.u64 (x : Int))), (7, V.d (D.i IntKind.i64 (52 - (j : Int)))), (8, V.d (D.i IntKind.u64 ((x * 2 ^ j : Nat) : Int)))]) [] []) =
      rk Tryd.prog pol (bitsTask half x B)
  | 0, j, hd, hj => by
    exfalso
    have : 2 ^ 53 ≤ x * 2 ^ j := by
      rw [show j = 53 by omega]; exact Nat.le_mul_of_pos_left _ h0
    omega
  | d + 1, j, hd, hj => by
    by_cases h : x * 2 ^ j < 2 ^ 52
    · have e : x * 2 ^ (j + 1) = x * 2 ^ j * 2 := by rw [Nat.pow_succ, Nat.mul_assoc]
      obtain ⟨B, b1, b2, b3⟩ := exact_loop half x h0 d (j + 1) (by omega) (by rw [e]; omega)
      refine ⟨B, b1, b2, ?_⟩
      rw [f8_at2479]
      have w1 : IntKind.i64.wrap (52 - (j : Int) - 1) = 52 - ((j + 1 : Nat) : Int) := by rw [wrap_i64] <;> omega
      have w2 : IntKind.u64.wrap (((x * 2 ^ j : Nat) : Int) * 2) = ((x * 2 ^ (j + 1) : Nat) : Int) := by rw [e, u64_wrap]; omega
      rw [w1, w2, st_t (by omega), interp_call_ret]
      exact b3
    · refine ⟨(1074 - j) * 2 ^ 52 + x * 2 ^ j, at_pow x j (by omega) (by omega) hj, by omega, ?_⟩
      rw [f8_at2479]
      generalize hm : x * 2 ^ j = m at *
      have w1 : IntKind.i64.wrap (52 - (j : Int) + 1023) = ((1075 - j : Nat) : Int) := by rw [wrap_i64] <;> omega
      have w2 : IntKind.u64.wrap ((1075 - j : Nat) : Int) = ((1075 - j : Nat) : Int) := by rw [u64_wrap]; omega
      have w3 : IntKind.u64.wrap (((1075 - j : Nat) : Int) * 4503599627370496) = (((1075 - j) * 2 ^ 52 : Nat) : Int) := by rw [u64_wrap]; omega
      have w4 : IntKind.u64.wrap ((m : Int) - 4503599627370496) = ((m - 2 ^ 52 : Nat) : Int) := by rw [u64_wrap]; omega
      have hor : (BitVec.ofInt IntKind.u64.bits (((1075 - j) * 2 ^ 52 : Nat) : Int) ||| BitVec.ofInt IntKind.u64.bits ((m - 2 ^ 52 : Nat) : Int)).toNat = (1074 - j) * 2 ^ 52 + m := by
        have e := or_mul (a := 1075 - j) (b := m - 2 ^ 52) (k := 52) (by omega)
        have := or_nat (a := (1075 - j) * 2 ^ 52) (b := m - 2 ^ 52) (by omega) (by omega)
        rw [e] at this
        refine Eq.trans this ?_
        omega
      have w5 : IntKind.u64.wrap (((1074 - j) * 2 ^ 52 + m : Nat) : Int) = (((1074 - j) * 2 ^ 52 + m : Nat) : Int) := by rw [u64_wrap]; omega
      rw [w1, w2, w3, w4, hor, w5, st_f (by omega), interp_call_ret]
      rfl
theorem exact_tail (x : Nat) (h0 : 0 < x) (h : x < 2 ^ 52) : rk Tryd.prog pol (Task.at_ 8 0 [true, false, true, true, true, true, true, true, true] (sv 86 [(5, V.d (D.i IntKind.u64 (x : Int))), (64, V.d (D.b false))]) [] []) = some (.d (.b true), []) := by
  have wx : IntKind.i64.wrap (x : Int) = (x : Int) := by rw [wrap_i64] <;> omega
  have w1 : IntKind.u64.wrap (2 * (x : Int)) = ((2 * x : Nat) : Int) := by rw [u64_wrap]; omega
  have w2 : IntKind.u64.wrap (((2 * x : Nat) : Int) + 1) = ((2 * x + 1 : Nat) : Int) := by rw [u64_wrap]; omega
  have w3 : IntKind.i64.wrap ((2 * x + 1 : Nat) : Int) = ((2 * x + 1 : Nat) : Int) := by rw [wrap_i64] <;> omega
  have tx := tenN_s x (by omega)
  have lx := decN_len 20 x (by decide) (Nat.lt_trans h (by decide))
  obtain ⟨B, g1, g2, g3⟩ := exact_ex (2 * x + 1) (by omega) (by omega)
  obtain ⟨u, nu, u1, u2⟩ := int_near (2 * x + 1) (by omega)
  have eu : u = B := near_eq nu (near_exact (y := 1) (by decide) (by rw [g1, Nat.mul_one])) (by decide) (by decide) rfl
  have hw : Near (x * 10 + 5) 10 (B - 2 ^ 52) := near_exact (by decide) (by
    have := gr_double (v := B - 2 ^ 52) (by omega)
    rw [Nat.sub_add_cancel (by omega), g1] at this
    have e : (x * 10 + 5) * U = 5 * ((2 * x + 1) * U) := by rw [← Nat.mul_assoc]; exact congrArg (fun z => z * U) (by omega)
    rw [e, this]; omega)
  have p := half_parse x (by omega) [53] (by decide) (by decide) (by decide) (B - 2 ^ 52) hw (by omega)
  have s := parse_s (decN x ++ [46, 53]) (by simp; omega)
  rw [p] at s
  have l : (decN x).length + 2 < 4611686018427387904 := by omega
  have si := int_run ((2 * x + 1 : Nat) : Int) (by omega) (by omega)
  rw [u1, eu] at si
  rw [f8_at895, wx, w1, w2, w3, st_F, st_S tx, st_if l, st_II s, st_I si, st_eq rfl, interp_ret]
  have : (((B - 2 ^ 52 : Nat) : Int) == IntKind.u64.wrap ((B : Int) - 4503599627370496)) = true := by
    rw [beq_iff_eq, u64_wrap]; omega
  rw [this]
theorem exact_rest (half : Bool) (x B : Nat) (h : x < 2 ^ 53) (hg : gr B = x * U) (hB : B < 1100 * 2 ^ 52) : rk Tryd.prog pol (bitsTask half x B) = some (.d (.b true), []) := by
  have wx : IntKind.i64.wrap (x : Int) = (x : Int) := by rw [wrap_i64] <;> omega
  have tx := tenN_s x (by omega)
  have lx := decN_len 20 x (by decide) (Nat.lt_trans h (by decide))
  have nB : Near x 1 B := near_exact (by decide) (by rw [hg, Nat.mul_one])
  obtain ⟨v, nv, p⟩ := parse_d x (Nat.lt_trans h (by decide))
  have ev : v = B := near_eq nv nB (by decide) (by decide) rfl
  obtain ⟨u, nu, u1, -⟩ := int_near x (by omega)
  have eu : u = B := near_eq nu nB (by decide) (by decide) rfl
  have s := parse_s (decN x) (by omega)
  rw [p, ev, outB, if_pos (by omega), signV_false] at s
  have si := int_run (x : Int) (by omega) (by omega)
  rw [u1, eu] at si
  have fin : rk Tryd.prog pol (Task.at_ 8 0 [true, false, true, true, true, true, true, true] (sv 86 [(1, V.d (D.b half)), (5, V.d (D.i IntKind.u64 (x : Int))), (54, V.d (D.b false))]) [] []) = some (.d (.b true), []) := by
    have tt : rk Tryd.prog pol (Task.at_ 8 0 [true, false, true, true, true, true, true, true, true] (sv 86 [(5, V.d (D.i IntKind.u64 (x : Int))), (64, V.d (D.b true))]) [] []) = some (.d (.b true), []) := by
      rw [f8_at895, st_T, interp_ret]
    rw [f8_at447, st_F]
    cases half with
    | false => rw [st_nf, interp_call_ret, tt]
    | true =>
      rw [st_nt]
      by_cases h0 : x = 0
      · rw [st_eq (by omega), interp_call_ret, tt]
      · rw [st_ne (by omega), interp_call_ret]
        by_cases h52 : x < 2 ^ 52
        · rw [show decide ((x : Int) ≥ 4503599627370496) = false from decide_eq_false (by omega)]
          exact exact_tail x (by omega) h52
        · rw [show decide ((x : Int) ≥ 4503599627370496) = true from decide_eq_true (by omega)]
          exact tt
  unfold bitsTask
  have hb : ((B : Int) != (B : Int)) = false := bne_self_eq_false _
  rw [f8_at63, wx, st_S tx, st_II s, st_ne_f rfl, st_ne_f rfl, st_I si, hb, interp_call_ret, fin]
theorem exact_s (a : Nat) (half : Bool) : rk Tryd.prog pol (Task.call 8 [V.d (D.i IntKind.u64 (a : Int)), V.d (D.b half)] []) = some (.d (.b true), []) := by
  have e : (a : Int).tmod 9007199254740992 = ((a % 9007199254740992 : Nat) : Int) := tmod_nat a 9007199254740992
  have h : a % 9007199254740992 < 2 ^ 53 := Nat.mod_lt _ (by decide)
  rw [f8, e]
  generalize a % 9007199254740992 = x at h ⊢
  rw [st_B begun_s, st_nt]
  by_cases h0 : 0 < x
  · obtain ⟨B, b1, b2, b3⟩ := exact_loop half x h0 53 0 (by decide) (by omega)
    rw [Nat.pow_zero, Nat.mul_one] at b3
    rw [st_t (by omega), interp_call_ret]
    exact Eq.trans b3 (exact_rest half x B h b1 b2)
  · rw [st_f (by omega), interp_call_ret]
    have := exact_rest half x 0 h (by rw [show x = 0 by omega, Nat.zero_mul]; rfl) (by decide)
    exact this
/-! ### DecWays -/
theorem ways_loop (x v : Nat) (ls : List (List UInt8)) (hx : x < 9223372036854775807) (hi : intN (x : Int) = v) (hall : ∀ s ∈ ls, parseB s = (v, 0) ∧ s.length ≤ 1000) (hl : ls.length ≤ 1000) (b : Bool) : ∀ d i : Nat, i + d = ls.length →
    rk Tryd.prog pol (Task.at_ 7 0 [false, true, false, true, true, true, true, true, true, true, true, true, true]
      (sv 95 [(7, V.d (D.i IntKind.u64 (x : Int))), (11, V.d (D.i IntKind.u64 (v : Int))), (12, V.d (D.i IntKind.i64 0)), (14, V.d (D.l b (ls.map D.s))), (15, V.d (D.i IntKind.i64 (i : Int)))]) [] []) = some (.d (.b true), [])
  | 0, i, h => by
    have wx : IntKind.i64.wrap (x : Int) = (x : Int) := by rw [wrap_i64] <;> omega
    have si := int_run (x : Int) (by omega) (by omega)
    rw [hi] at si
    rw [f7_at11263, wx, st_f (by rw [List.length_map]; omega), st_eq rfl, st_I si, interp_ret, beq_self_eq_true]
  | d + 1, i, h => by
    have hlt : i < ls.length := by omega
    obtain ⟨p, l⟩ := hall _ (List.getElem_mem hlt)
    have s := parse_s ls[i] (by omega)
    rw [p] at s
    have hg : (ls.map D.s)[i]? = some (D.s ls[i]) := by rw [List.getElem?_map, List.getElem?_eq_getElem hlt]; rfl
    have hg2 : getI (ls.map D.s) (i : Int) = some (D.s ls[i]) := by rw [getI_nat, hg]
    have w : IntKind.i64.wrap ((i : Int) + 1) = ((i + 1 : Nat) : Int) := by rw [wrap_i64] <;> omega
    have hb : ((v : Int) != (v : Int)) = false := bne_self_eq_false _
    rw [f7_at11263, st_t (by rw [List.length_map]; omega), st_ob hg2, width1_s, st_ift, Int.toNat_natCast, st_ob hg, st_ob (cells0_s _), asS_s, st_II s, st_ne_f rfl, hb, interp_call_ret, f7_at936959, st_F, w, interp_call_ret]
    exact ways_loop x v ls hx hi hall hl b d (i + 1) (by omega)
theorem zeros_eq (z : Nat) (hz : z ≤ 20) : List.take (z - 0) [48, 48, 48, 48, 48, 48, 48, 48, 48, 48, 48, 48, 48, 48, 48, 48, 48, 48, 48, 48] = (List.replicate z 48 : List UInt8) := by
  have e : ([48, 48, 48, 48, 48, 48, 48, 48, 48, 48, 48, 48, 48, 48, 48, 48, 48, 48, 48, 48] : List UInt8) = List.replicate 20 48 := rfl
  rw [e, List.take_replicate]; congr 1; omega
theorem zeros_dig (z : Nat) : ∀ c ∈ (List.replicate z 48 : List UInt8), isDig c = true := by
  intro c hc
  rw [List.eq_of_mem_replicate hc]; decide
theorem app_dig {a b : List UInt8} (ha : ∀ c ∈ a, isDig c = true) (hb : ∀ c ∈ b, isDig c = true) : ∀ c ∈ a ++ b, isDig c = true := fun c hc => (List.mem_append.1 hc).elim (ha c) (hb c)
theorem out_of {p : Nat × Int} {x y v : Nat} (hy : 0 < y) (hx : ∃ w, Near x y w ∧ p = outB false w) (hv : Near x y v) (hlt : v < 2047 * 2 ^ 52) : p = (v, 0) := by
  obtain ⟨w, nw, q⟩ := hx
  rw [near_eq nw hv hy hy rfl] at q
  rw [q, outB, if_pos hlt, signV_false]
theorem near_same {x y v x' y' : Nat} (h : Near x y v) (hy : 0 < y) (hy' : 0 < y') (e : x * y' = x' * y) : Near x' y' v := by
  obtain ⟨w, nw, -⟩ := bitsN_near x' y' hy'
  rw [near_eq h nw hy hy' e]; exact nw
/-- Any text of the number x. -/
theorem parse_way {sg : List UInt8} (hsg : Sign sg false) {w : List UInt8} (hw : ∀ c ∈ w, isDig c = true) (hne : w ≠ []) {pt p : List UInt8} (hp : Part pt p) {xt : List UInt8} {n : Int} (hx : Expo xt n) (hl : w.length + p.length ≤ 60)
    {x v : Nat} (hv : Near x 1 v) (hlt : v < 2047 * 2 ^ 52) (hq : numB (w ++ p) * 10 ^ (n - p.length).toNat = x * 10 ^ (-(n - p.length)).toNat) : parseB (sg ++ (w ++ (pt ++ xt))) = (v, 0) := by
  have h10 : 0 < 10 ^ (-(n - (p.length : Int))).toNat := Nat.pow_pos (by decide)
  exact out_of h10 (parse_gen hsg hw hne hp hx hl) (near_same hv (by decide) h10 (by rw [Nat.mul_one, hq])) hlt
theorem ways_rat (x z : Nat) (sgn : List UInt8) (hs : sgn = [101] ∨ sgn = [69, 43]) (hx : x < 10 ^ 15) (hz : z < 20) {v : Nat} (hv : Near x 1 v) (hlt : v < 2047 * 2 ^ 52) :
    ∀ s ∈ [[43] ++ decN x, [48] ++ decN x, decN x ++ [46, 48], decN x ++ List.replicate z 48 ++ [101, 45] ++ decN z, decN x ++ sgn ++ [48], [48, 46] ++ List.replicate z 48 ++ decN x ++ [101] ++ decN (z + (decN x).length)], parseB s = (v, 0) ∧ s.length ≤ 1000 := by
  have lx := decN_len 15 x (by decide) hx
  have lz := decN_len 2 z (by decide) (by omega)
  have lk := decN_len 2 (z + (decN x).length) (by decide) (by omega)
  have dx := decN_dig x
  have nx := decN_ne x
  have lsg : sgn.length ≤ 2 := by rcases hs with rfl | rfl <;> decide
  have ht : numB ([48] ++ decN x) = x := by rw [numB_append, numB_decN]; simp [show numB [48] = 0 from rfl]
  intro s hm
  simp only [List.mem_cons, List.mem_nil_iff, or_false] at hm
  rcases hm with rfl | rfl | rfl | rfl | rfl | rfl
  · refine ⟨?_, by simp; omega⟩
    have := parse_way (Or.inr (Or.inl ⟨rfl, rfl⟩)) dx nx part_none expo_none (by simp; omega) hv hlt (by simp [numB_decN])
    simpa using this
  · refine ⟨?_, by simp; omega⟩
    have := parse_way sign_none (w := [48] ++ decN x) (app_dig (by decide) dx) (by simp) part_none expo_none (by simp; omega) hv hlt (by rw [List.append_nil, ht]; rfl)
    simpa using this
  · refine ⟨?_, by simp; omega⟩
    have := parse_way sign_none dx nx (pt := [46, 48]) (p := [48]) (Or.inr ⟨rfl, by decide, by decide⟩) expo_none (by simp; omega) hv hlt (by
      rw [numB_append, numB_decN]; simp [show numB [48] = 0 from rfl])
    simpa using this
  · refine ⟨?_, by simp; omega⟩
    have := parse_way sign_none (w := decN x ++ List.replicate z 48) (app_dig dx (zeros_dig z)) (by simp [nx]) part_none (xt := 101 :: ([45] ++ decN z)) (n := -(z : Int))
      (Or.inr ⟨101, [45], true, z, Or.inl rfl, rfl, Or.inr (Or.inr ⟨rfl, rfl⟩), by omega, by simp⟩) (by simp; omega) hv hlt (by
      rw [List.append_nil, numB_append, numB_decN, numB_zeros, List.length_replicate]
      rw [show (-(z : Int) - (([] : List UInt8).length : Int)).toNat = 0 by simp, show (-(-(z : Int) - (([] : List UInt8).length : Int))).toNat = z by simp]
      simp)
    simpa using this
  · refine ⟨?_, by simp; omega⟩
    rcases hs with rfl | rfl
    · have := parse_way sign_none dx nx part_none (xt := 101 :: ([] ++ decN 0)) (n := 0) (Or.inr ⟨101, [], false, 0, Or.inl rfl, rfl, sign_none, by omega, by simp⟩) (by simp; omega) hv hlt (by simp [numB_decN])
      simpa [show decN 0 = [48] from rfl] using this
    · have := parse_way sign_none dx nx part_none (xt := 69 :: ([43] ++ decN 0)) (n := 0) (Or.inr ⟨69, [43], false, 0, Or.inr rfl, rfl, Or.inr (Or.inl ⟨rfl, rfl⟩), by omega, by simp⟩) (by simp; omega) hv hlt (by simp [numB_decN])
      simpa [show decN 0 = [48] from rfl] using this
  · refine ⟨?_, by simp; omega⟩
    have := parse_way sign_none (w := [48]) (by decide) (by decide) (pt := 46 :: (List.replicate z 48 ++ decN x)) (p := List.replicate z 48 ++ decN x) (Or.inr ⟨rfl, by simp [nx], app_dig (zeros_dig z) dx⟩)
      (xt := 101 :: ([] ++ decN (z + (decN x).length))) (n := ((z + (decN x).length : Nat) : Int)) (Or.inr ⟨101, [], false, _, Or.inl rfl, rfl, sign_none, by omega, by simp⟩) (by simp; omega) hv hlt (by
      rw [numB_append [48], numB_append (List.replicate z 48), numB_decN, numB_zeros, List.length_append, List.length_replicate]
      simp [show numB [48] = 0 from rfl])
    simpa using this
theorem ways_main (a k : Int) (x z : Nat) (big : Bool) (ex : a.tmod 1000000000000000 = (x : Int)) (ek : k.tmod 20 = (z : Int)) (hx : x < 1000000000000000) (hz : z < 20) :
    rk Tryd.prog pol (Task.call 7 [V.d (D.i IntKind.u64 a), V.d (D.i IntKind.u8 k), V.d (D.b big)] []) = some (.d (.b true), []) := by
  have wx : IntKind.i64.wrap (x : Int) = (x : Int) := by rw [wrap_i64] <;> omega
  have wz : IntKind.i64.wrap (z : Int) = (z : Int) := by rw [wrap_i64] <;> omega
  have hx15 : x < 10 ^ 15 := hx
  have lx := decN_len 15 x (by decide) hx15
  have lz := decN_len 2 z (by decide) (by omega)
  have lk := decN_len 2 (z + (decN x).length) (by decide) (by omega)
  have tx := tenN_s x (by omega)
  have tz := tenN_s z (by omega)
  have tk := tenN_s (z + (decN x).length) (by omega)
  have wk : IntKind.i64.wrap ((z : Int) + ((decN x).length : Int)) = ((z + (decN x).length : Nat) : Int) := by rw [wrap_i64] <;> omega
  obtain ⟨v, nv, hi, hlt⟩ := int_near x (by omega)
  have hp : parseB (decN x) = (v, 0) := out_of (by decide) (parse_d x (Nat.lt_trans hx (by decide))) nv hlt
  have s := parse_s (decN x) (by omega)
  rw [hp] at s
  have hle : (0 : Int) ≤ (z : Int) ∧ (z : Int) ≤ 20 := by omega
  have fin : ∀ sgn : List UInt8, sgn = [101] ∨ sgn = [69, 43] → rk Tryd.prog pol (Task.at_ 7 0 [true, true, true, true, true, true, true, true, true]
      (sv 95 [(7, V.d (D.i IntKind.u64 (x : Int))), (8, V.d (D.s (decN x))), (9, V.d (D.i IntKind.i64 (z : Int))), (10, V.d (D.s (List.replicate z 48))), (11, V.d (D.i IntKind.u64 (v : Int))), (12, V.d (D.i IntKind.i64 0)), (13, V.d (D.s sgn))]) [] []) = some (.d (.b true), []) := by
    intro sgn hs
    have lsg : sgn.length ≤ 2 := by rcases hs with rfl | rfl <;> decide
    have hall := ways_rat x z sgn hs hx15 hz nv hlt
    have hw := ways_loop x v _ (by omega) hi hall (by simp) true 6 0 (by simp)
    rw [f7_at1023, wk]
    have l1 : 1 + (decN x).length < 4611686018427387904 := by omega
    have l2 : (decN x).length + 2 < 4611686018427387904 := by omega
    have l3 : (decN x).length + (List.replicate z (48 : UInt8)).length < 4611686018427387904 := by simp; omega
    have l4 : (decN x ++ List.replicate z 48).length + 2 < 4611686018427387904 := by simp; omega
    have l5 : (decN x ++ List.replicate z 48 ++ [101, 45]).length + (decN z).length < 4611686018427387904 := by simp; omega
    have l6 : (decN x).length + sgn.length < 4611686018427387904 := by omega
    have l7 : (decN x ++ sgn).length + 1 < 4611686018427387904 := by simp; omega
    have l8 : 2 + (List.replicate z (48 : UInt8)).length < 4611686018427387904 := by simp; omega
    have l9 : ([48, 46] ++ List.replicate z (48 : UInt8)).length + (decN x).length < 4611686018427387904 := by simp; omega
    have l10 : ([48, 46] ++ List.replicate z (48 : UInt8) ++ decN x).length + 1 < 4611686018427387904 := by simp; omega
    have l11 : ([48, 46] ++ List.replicate z (48 : UInt8) ++ decN x ++ [101]).length + (decN (z + (decN x).length)).length < 4611686018427387904 := by simp; omega
    rw [st_if l1, st_if l1, st_if l2, st_if l3, st_if l4, st_S tz, st_if l5, st_if l6, st_if l7, st_if l8, st_if l9, st_if l10, st_S tk, st_if l11, interp_call_ret]
    exact hw
  rw [f7, ex, ek, wx, wz, Int.toNat_natCast, zeros_eq z (by omega), st_B begun_s, st_nt, st_S tx, st_if hle, st_II s]
  cases big with
  | false => rw [st_F, interp_call_ret]; exact fin [101] (Or.inl rfl)
  | true => rw [st_T, interp_call_ret]; exact fin [69, 43] (Or.inr rfl)
theorem ways_s (a k : Nat) (big : Bool) : rk Tryd.prog pol (Task.call 7 [V.d (D.i IntKind.u64 (a : Int)), V.d (D.i IntKind.u8 (k : Int)), V.d (D.b big)] []) = some (.d (.b true), []) :=
  ways_main a k _ _ big (tmod_nat a 1000000000000000) (tmod_nat k 20) (Nat.mod_lt _ (by decide)) (Nat.mod_lt _ (by decide))
end Go.Dn.Dec
