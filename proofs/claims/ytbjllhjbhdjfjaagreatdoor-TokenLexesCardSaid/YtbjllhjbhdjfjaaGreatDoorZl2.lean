/- the document's lexer: letter, digit, hex, starts, fail, digits, has, space. -/
import Derived.Test.YtbjllhjbhdjfjaaGreatDoorZt1
import Derived.Test.YtbjllhjbhdjfjaaGreatDoorZl1
import Derived.Test.YtbjllhjbhdjfjaaGreatDoorZd1
import Derived.Test.YtbjllhjbhdjfjaaGreatDoorZe3
namespace Go.Dn.Dec
open Go.Proofs
def docO (s : List UInt8) (i e a : Int) : Ob := .cells [.d (.s s), .d (.i .i64 i), .d (.i .i64 e), .d (.i .i64 a)] []
theorem drop_at {s : List UInt8} {i : Nat} (h : i < s.length) : ∃ c, s.drop i = c :: s.drop (i + 1) ∧ getI s (i : Int) = some c :=
 ⟨s[i], List.drop_eq_getElem_cons h, by rw [getI_nat, List.getElem?_eq_getElem h]⟩
theorem dlet_s (c : UInt8) : rk Tryz.prog pol (Task.call 96 [V.d (D.i .u8 (c.toNat : Int))] []) = some (.d (.b (letB c)), []) := by
 have e95 : ((c.toNat : Int) == 95) = (c == 95) := u8_eqb c 95
 have fin : letB c = ((decide (97 ≤ c.toNat) && decide (c.toNat ≤ 122)) || (decide (65 ≤ c.toNat) && decide (c.toNat ≤ 90)) || c == 95) := by
  unfold letB
  cases (c == 95) <;> cases decide (97 ≤ c.toNat) <;> cases decide (c.toNat ≤ 122) <;> cases decide (65 ≤ c.toNat) <;> cases decide (c.toNat ≤ 90) <;> rfl
 rw [e96, fin]
 by_cases h1 : 97 ≤ c.toNat
 ·rw [st_t (by omega)]
  by_cases h2 : c.toNat ≤ 122
  ·rw [st_t (by omega), interp_ret, decide_eq_true h1, decide_eq_true h2]; rfl
  ·rw [st_f (by omega), st_t (by omega), st_f (by omega), interp_ret, decide_eq_false h2, decide_eq_false (show ¬ c.toNat ≤ 90 by omega), Bool.and_false, Bool.and_false, e95]; rfl
 ·rw [st_f (by omega), decide_eq_false h1]
  by_cases h3 : 65 ≤ c.toNat
  ·rw [st_t (by omega)]
   by_cases h4 : c.toNat ≤ 90
   ·rw [st_t (by omega), interp_ret, decide_eq_true h3, decide_eq_true h4]; rfl
   ·rw [st_f (by omega), interp_ret, decide_eq_false h4, Bool.and_false, e95]; rfl
  ·rw [st_f (by omega), interp_ret, decide_eq_false h3, e95]; rfl
theorem ddig_s (c : UInt8) : rk Tryz.prog pol (Task.call 98 [V.d (D.i .u8 (c.toNat : Int))] []) = some (.d (.b (isDig c)), []) := by
 rw [e98]
 unfold isDig
 have d57 : decide ((c.toNat : Int) ≤ 57) = decide (c.toNat ≤ 57) := by congr 1; exact propext (by omega)
 by_cases h : 48 ≤ c.toNat
 ·rw [st_t (by omega), interp_ret, d57, decide_eq_true h]; rfl
 ·rw [st_f (by omega), interp_ret, decide_eq_false h]; rfl
theorem dhex_s (c : UInt8) : rk Tryz.prog pol (Task.call 145 [V.d (D.i .u8 (c.toNat : Int))] []) = some (.d (.i .i64 (if hexB c = true then (hexVal c : Int) else -1)), []) := by
 have hlt := c.toNat_lt
 have last : ∀ b : Bool, b = decide (65 ≤ c.toNat ∧ c.toNat ≤ 70) → hexB c = b → ¬ (97 ≤ c.toNat) → ¬ c.toNat ≤ 57 →
   rk Tryz.prog pol (Task.at_ 145 0 [true, true, true, true, true, false, false, true] (sv 31 [(0, V.d (D.i .u8 (c.toNat : Int))), (20, V.d (D.b b))]) [] []) = some (.d (.i .i64 (if hexB c = true then (hexVal c : Int) else -1)), []) := by
  intro b hb hx h1 h2
  rw [e145_at505, hx]
  cases b with
  | false => rw [st_F, interp_ret]; rfl
  | true =>
   have h3 := of_decide_eq_true hb.symm
   have w1 : IntKind.u8.wrap ((c.toNat : Int) - 65) = (c.toNat : Int) - 65 := by rw [wrap_u8] <;> omega
   have w2 : IntKind.i64.wrap ((c.toNat : Int) - 65) = (c.toNat : Int) - 65 := by rw [wrap_i64] <;> omega
   have w3 : IntKind.i64.wrap ((c.toNat : Int) - 65 + 10) = (hexVal c : Int) := by
    unfold hexVal; rw [if_neg h2, if_neg h1, wrap_i64] <;> omega
   rw [st_T, interp_ret, w1, w2, w3]; rfl
 rw [e145, st_B (ddig_s c)]
 have hB : hexB c = (isDig c || (decide (97 ≤ c.toNat) && decide (c.toNat ≤ 102)) || (decide (65 ≤ c.toNat) && decide (c.toNat ≤ 70))) := rfl
 cases hd : isDig c with
 | true =>
  have := (isDig_iff c).1 hd
  have w1 : IntKind.u8.wrap ((c.toNat : Int) - 48) = (c.toNat : Int) - 48 := by rw [wrap_u8] <;> omega
  have w2 : IntKind.i64.wrap ((c.toNat : Int) - 48) = (hexVal c : Int) := by unfold hexVal; rw [if_pos (by omega), wrap_i64] <;> omega
  rw [st_T, interp_ret, w1, w2, hB, hd]; rfl
 | false =>
  have hnd : ¬ (48 ≤ c.toNat ∧ c.toNat ≤ 57) := fun h => by have := (isDig_iff c).2 h; rw [hd] at this; cases this
  rw [hd, Bool.false_or] at hB
  rw [st_F]
  by_cases h1 : 97 ≤ c.toNat
  ·rw [decide_eq_true h1, Bool.true_and] at hB
   rw [st_t (by omega), interp_call_ret, e145_at121]
   by_cases h2 : c.toNat ≤ 102
   ·have w1 : IntKind.u8.wrap ((c.toNat : Int) - 97) = (c.toNat : Int) - 97 := by rw [wrap_u8] <;> omega
    have w2 : IntKind.i64.wrap ((c.toNat : Int) - 97) = (c.toNat : Int) - 97 := by rw [wrap_i64] <;> omega
    have w3 : IntKind.i64.wrap ((c.toNat : Int) - 97 + 10) = (hexVal c : Int) := by
     unfold hexVal; rw [if_neg (by omega), if_pos h1, wrap_i64] <;> omega
    rw [decide_eq_true h2] at hB
    rw [decide_eq_true (show (c.toNat : Int) ≤ 102 by omega), st_T, interp_ret, w1, w2, w3, hB]; rfl
   ·rw [decide_eq_false h2, decide_eq_false (show ¬ c.toNat ≤ 70 by omega)] at hB
    have hB' : hexB c = false := by rw [hB]; simp
    rw [decide_eq_false (show ¬ (c.toNat : Int) ≤ 102 by omega), st_F, st_t (by omega), interp_call_ret, decide_eq_false (show ¬ (c.toNat : Int) ≤ 70 by omega), e145_at505, st_F, interp_ret, hB']; rfl
  ·rw [decide_eq_false h1, Bool.false_and, Bool.false_or] at hB
   rw [st_f (by omega), interp_call_ret, e145_at121, st_F]
   by_cases h3 : 65 ≤ c.toNat
   ·have d70 : decide ((c.toNat : Int) ≤ 70) = decide (c.toNat ≤ 70) := by congr 1; exact propext (by omega)
    rw [decide_eq_true h3, Bool.true_and] at hB
    rw [st_t (by omega), interp_call_ret, d70]
    exact last _ (by congr 1; exact propext (by omega)) hB h1 (by omega)
   ·rw [decide_eq_false h3, Bool.false_and] at hB
    rw [st_f (by omega), interp_call_ret, e145_at505, st_F, interp_ret, hB]; rfl
theorem starts_s (s t : List UInt8) (a : Nat) (ha : a ≤ s.length) (hs : s.length ≤ 100000) (ht : t.length ≤ 100) : rk Tryz.prog pol (Task.call 94 [V.d (D.s s), V.d (D.i .i64 (a : Int)), V.d (D.s t)] []) = some (.d (.b ((s.drop a).take t.length == t)), []) := by
 have w : IntKind.i64.wrap ((a : Int) + (t.length : Int)) = ((a + t.length : Nat) : Int) := by rw [wrap_i64] <;> omega
 rw [e94, w]
 by_cases h : a + t.length ≤ s.length
 ·rw [st_t (by omega), st_if (by omega), st_if (by omega), interp_ret, Int.toNat_natCast, Int.toNat_natCast, Nat.add_sub_cancel_left]
 ·have hne : ((s.drop a).take t.length == t) = false := by
   rw [beq_eq_false_iff_ne]
   intro e
   have := congrArg List.length e
   rw [List.length_take, List.length_drop] at this
   omega
  rw [st_f (by omega), interp_ret, hne]
theorem two_of (c : UInt8) (q : List UInt8) (x y : UInt8) : ((c :: q).take 2 == [x, y]) = decide (c = x ∧ q.head? = some y) := by
 rw [Bool.eq_iff_iff, beq_iff_eq, decide_eq_true_iff]
 cases q with
 | nil => simp
 | cons d q => simp
theorem dfail_s (s : List UInt8) (i e a n m : Int) : rk Tryz.prog pol (Task.call 95 [V.p 0 0, V.d (D.i .i64 n), V.d (D.i .i64 m)] [docO s i e a]) = some (.t [], [docO s i n m]) := by
 unfold docO; rw [e95, interp_ret]
theorem ddigits_loop (s : List UInt8) (hs : s.length ≤ 100000) (e a : Int) (n0 : Nat) : ∀ (m i : Nat), i + m = s.length →
  rk Tryz.prog pol (Task.at_ 147 1 [false, false, true, true] (sv 43 [(0, V.p 0 0), (3, V.d (D.i .i64 (n0 : Int)))]) [] [docO s (i : Int) e a]) =
   some (.d (.b (decide (n0 < i + ((s.drop i).takeWhile isDig).length))), [docO s ((i + ((s.drop i).takeWhile isDig).length : Nat) : Int) e a])
 | 0, i, h => by
  unfold docO
  rw [e147_at19, st_f (by omega), interp_call_ret, e147_at195, st_F, interp_ret, List.drop_eq_nil_of_le (by omega)]
  rw [show decide ((i : Int) > (n0 : Int)) = decide (n0 < i + (List.takeWhile isDig []).length) by congr 1; exact propext (by simp)]
  rfl
 | m + 1, i, h => by
  obtain ⟨c, hd, hg⟩ := drop_at (show i < s.length by omega)
  have ih := ddigits_loop s hs e a n0 m (i + 1) (by omega)
  have w1 : IntKind.i64.wrap ((i : Int) + 1) = ((i + 1 : Nat) : Int) := by rw [wrap_i64] <;> omega
  unfold docO at ih ⊢
  rw [e147_at19, st_t (by omega), st_ob hg, st_B (ddig_s c), interp_call_ret, e147_at195, hd, List.takeWhile_cons]
  cases hc : isDig c with
  | true =>
   rw [st_T, w1, interp_call_ret, ih, if_pos rfl, List.length_cons, show i + 1 + ((s.drop (i + 1)).takeWhile isDig).length = i + (((s.drop (i + 1)).takeWhile isDig).length + 1) by omega]
  | false =>
   rw [st_F, interp_ret, if_neg (by decide), List.length_nil, Nat.add_zero]
   rw [show decide ((i : Int) > (n0 : Int)) = decide (n0 < i) by congr 1; exact propext (by omega)]
theorem ddigits_s (s : List UInt8) (hs : s.length ≤ 100000) (i : Nat) (hi : i ≤ s.length) (e a : Int) :
  rk Tryz.prog pol (Task.call 147 [V.p 0 0] [docO s (i : Int) e a]) = some (.d (.b (decide ((s.drop i).takeWhile isDig ≠ []))), [docO s ((i + ((s.drop i).takeWhile isDig).length : Nat) : Int) e a]) := by
 have h := ddigits_loop s hs e a i (s.length - i) i (by omega)
 have e1 : decide (i < i + ((s.drop i).takeWhile isDig).length) = decide ((s.drop i).takeWhile isDig ≠ []) := by
  congr 1; apply propext
  rw [← List.length_pos_iff]; omega
 rw [← e1, ← h]
 unfold docO
 rw [e147, interp_call_ret]
theorem dhas_s (s : List UInt8) (hs : s.length ≤ 100000) (i n : Nat) (hi : i ≤ s.length) (hn : n ≤ 100) (e a : Int) :
  rk Tryz.prog pol (Task.call 148 [V.p 0 0, V.d (D.i .i64 (n : Int))] [docO s (i : Int) e a]) = some (.d (.b (isDig ((s.drop i).getD n 0))), [docO s (i : Int) e a]) := by
 have w1 : IntKind.i64.wrap ((i : Int) + (n : Int)) = ((i + n : Nat) : Int) := by rw [wrap_i64] <;> omega
 have hg : (s.drop i).getD n 0 = s.getD (i + n) 0 := by
  rw [List.getD_eq_getElem?_getD, List.getD_eq_getElem?_getD, List.getElem?_drop]
 unfold docO
 rw [e148, w1, hg]
 by_cases h : i + n < s.length
 ·have g : getI s ((i + n : Nat) : Int) = some (s.getD (i + n) 0) := by
   rw [getI_nat, List.getD_eq_getElem?_getD, List.getElem?_eq_getElem h]; rfl
  rw [st_t (by omega), st_ob g, st_B (ddig_s _), interp_ret]
 ·have g : s.getD (i + n) 0 = 0 := by rw [List.getD_eq_getElem?_getD, List.getElem?_eq_none (by omega)]; rfl
  rw [st_f (by omega), interp_ret, g]; rfl
abbrev dsp (o : Ob) : Task := Task.at_ 45 1 [false] (sv 146 [(0, V.p 0 0)]) [] [o]
theorem line_loop (s : List UInt8) (hs : s.length ≤ 100000) (e a : Int) : ∀ (m i : Nat), i + m = s.length →
  rk Tryz.prog pol (Task.at_ 45 1 [false, false, true, true, true, false, true, false, true, false, false] (sv 146 [(0, V.p 0 0)]) [] [docO s (i : Int) e a]) =
   rk Tryz.prog pol (dsp (docO s ((i + ((s.drop i).takeWhile (· != 10)).length : Nat) : Int) e a))
 | 0, i, h => by
  unfold docO
  rw [e45_at2516, st_f (by omega), interp_call_ret, e45_at25044, st_F, interp_call_ret, List.drop_eq_nil_of_le (by omega)]
  rfl
 | m + 1, i, h => by
  obtain ⟨c, hd, hg⟩ := drop_at (show i < s.length by omega)
  have ih := line_loop s hs e a m (i + 1) (by omega)
  have w1 : IntKind.i64.wrap ((i : Int) + 1) = ((i + 1 : Nat) : Int) := by rw [wrap_i64] <;> omega
  have e10 : ((c.toNat : Int) != 10) = (c != 10) := by rw [bne, bne, show ((c.toNat : Int) == 10) = (c == 10) from u8_eqb c 10]
  unfold docO at ih ⊢
  rw [e45_at2516, st_t (by omega), st_ob hg, interp_call_ret, e45_at25044, e10, hd, List.takeWhile_cons]
  cases hc : (c != 10) with
  | true => rw [st_T, w1, interp_call_ret, ih, if_pos rfl, List.length_cons, show i + 1 + ((s.drop (i + 1)).takeWhile (· != 10)).length = i + (((s.drop (i + 1)).takeWhile (· != 10)).length + 1) by omega]
  | false => rw [st_F, interp_call_ret, if_neg (by decide), List.length_nil, Nat.add_zero]
theorem note_loop (s : List UInt8) (hs : s.length ≤ 100000) (p : Nat) (a : Int) : ∀ (m k : Nat), k + m = s.length →
  rk Tryz.prog pol (Task.at_ 45 1 [false, false, true, false, true, true, true, true, true, false, true, false, true, false, false] (sv 146 [(0, V.p 0 0), (3, V.d (D.i .i64 (k : Int)))]) [] [docO s (p : Int) 0 a]) =
   match endN (s.drop k) with
   | none => some (.t [], [docO s (p : Int) 2 (p : Int)])
   | some n => rk Tryz.prog pol (dsp (docO s ((k + n : Nat) : Int) 0 a))
 | 0, k, h => by
  have hf := dfail_s s (p : Int) 0 a 2 (p : Int)
  rw [List.drop_eq_nil_of_le (by omega)]
  unfold docO at hf ⊢
  rw [e45_at38868, st_f (by omega), interp_call_ret, e45_at399316, st_F, st_t (by omega), so_0 hf (by rfl) (by rfl), interp_ret]
  rfl
 | m + 1, k, h => by
  obtain ⟨c, hd, hg⟩ := drop_at (show k < s.length by omega)
  have ih := note_loop s hs p a m (k + 1) (by omega)
  have hst := starts_s s [42, 47] k (by omega) hs (by decide)
  have hl : ([42, 47] : List UInt8).length = 2 := rfl
  rw [hl, hd, two_of] at hst
  have w1 : IntKind.i64.wrap ((k : Int) + 1) = ((k + 1 : Nat) : Int) := by rw [wrap_i64] <;> omega
  have w2 : IntKind.i64.wrap ((k : Int) + 2) = ((k + 2 : Nat) : Int) := by rw [wrap_i64] <;> omega
  rw [hd]
  unfold endN
  by_cases hc : c = 42 ∧ (s.drop (k + 1)).head? = some 47
  ·rw [decide_eq_true hc] at hst
   rw [if_pos hc]
   unfold docO
   rw [e45_at38868, st_t (by omega), st_B hst, interp_call_ret, e45_at399316, Bool.not_true, st_F, st_f (by omega), w2, interp_call_ret]
  ·rw [decide_eq_false hc] at hst
   rw [if_neg hc]
   have go : rk Tryz.prog pol (Task.at_ 45 1 [false, false, true, false, true, true, true, true, true, false, true, false, true, false, false] (sv 146 [(0, V.p 0 0), (3, V.d (D.i .i64 (k : Int)))]) [] [docO s (p : Int) 0 a]) =
     rk Tryz.prog pol (Task.at_ 45 1 [false, false, true, false, true, true, true, true, true, false, true, false, true, false, false] (sv 146 [(0, V.p 0 0), (3, V.d (D.i .i64 ((k + 1 : Nat) : Int)))]) [] [docO s (p : Int) 0 a]) := by
    unfold docO
    rw [e45_at38868, st_t (by omega), st_B hst, interp_call_ret, e45_at399316, Bool.not_false, st_T, w1, interp_call_ret]
   rw [go, ih]
   cases endN (s.drop (k + 1)) with
   | none => rfl
   | some n =>
    show _ = rk Tryz.prog pol (dsp (docO s ((k + (n + 1) : Nat) : Int) 0 a))
    rw [show k + (n + 1) = k + 1 + n by omega]
theorem dspace_end (s : List UInt8) (i : Nat) (hi : s.length ≤ i) (e a : Int) : rk Tryz.prog pol (dsp (docO s (i : Int) e a)) = some (.t [], [docO s (i : Int) e a]) := by
 unfold dsp docO
 rw [e45_at2, st_f (by omega), interp_call_ret, e45_at24, st_F, interp_ret]
theorem dspace_sp (s : List UInt8) (hs : s.length ≤ 100000) (i : Nat) (a : Int) (c : UInt8) (hi : i < s.length) (hg : getI s (i : Int) = some c) (hc : spB c = true) :
  rk Tryz.prog pol (dsp (docO s (i : Int) 0 a)) = rk Tryz.prog pol (dsp (docO s ((i + 1 : Nat) : Int) 0 a)) := by
 have w1 : IntKind.i64.wrap ((i : Int) + 1) = ((i + 1 : Nat) : Int) := by rw [wrap_i64] <;> omega
 have e9 : ((c.toNat : Int) == 9) = (c == 9) := u8_eqb c 9
 have e10 : ((c.toNat : Int) == 10) = (c == 10) := u8_eqb c 10
 have e13 : ((c.toNat : Int) == 13) = (c == 13) := u8_eqb c 13
 have e32 : ((c.toNat : Int) == 32) = (c == 32) := u8_eqb c 32
 unfold spB at hc
 unfold dsp docO
 rw [e45_at2, st_t (by omega), interp_call_ret, beq_self_eq_true, e45_at24, st_T, st_ob hg, e9]
 cases h9 : (c == 9) with
 | true => rw [st_T, interp_call_ret, e45_at212, st_T, w1, interp_call_ret]
 | false =>
  rw [st_F, e10]
  cases h10 : (c == 10) with
  | true => rw [st_T, interp_call_ret, e45_at212, st_T, w1, interp_call_ret]
  | false =>
   rw [st_F, e13]
   cases h13 : (c == 13) with
   | true => rw [st_T, interp_call_ret, e45_at212, st_T, w1, interp_call_ret]
   | false =>
    rw [h9, h10, h13, Bool.false_or, Bool.false_or, Bool.false_or] at hc
    rw [st_F, e32, hc, interp_call_ret, e45_at212, st_T, w1, interp_call_ret]
theorem dspace_ns (s : List UInt8) (i : Nat) (a : Int) (c : UInt8) (hi : i < s.length) (hg : getI s (i : Int) = some c) (hc : spB c = false) :
  rk Tryz.prog pol (dsp (docO s (i : Int) 0 a)) = rk Tryz.prog pol (Task.at_ 45 1 [true, false, true, false, true, false, false] (sv 146 [(0, V.p 0 0), (2, V.d (D.i .u8 (c.toNat : Int))), (30, V.d (D.b false))]) [] [docO s (i : Int) 0 a]) := by
 have e9 : ((c.toNat : Int) == 9) = (c == 9) := u8_eqb c 9
 have e10 : ((c.toNat : Int) == 10) = (c == 10) := u8_eqb c 10
 have e13 : ((c.toNat : Int) == 13) = (c == 13) := u8_eqb c 13
 have e32 : ((c.toNat : Int) == 32) = (c == 32) := u8_eqb c 32
 unfold spB at hc
 simp only [Bool.or_eq_false_iff] at hc
 obtain ⟨⟨⟨h9, h10⟩, h13⟩, h32⟩ := hc
 unfold dsp docO
 rw [e45_at2, st_t (by omega), interp_call_ret, beq_self_eq_true, e45_at24, st_T, st_ob hg, e9, h9, st_F, e10, h10, st_F, e13, h13, st_F, e32, h32, interp_call_ret]
theorem dspace_s (s : List UInt8) (hs : s.length ≤ 100000) (a : Int) (b : Nat) : ∀ (f k : Nat), s.length ≤ b + k + f → b + k ≤ s.length →
  match skipF f (s.drop (b + k)) k with
  | (k', false) => rk Tryz.prog pol (dsp (docO s ((b + k : Nat) : Int) 0 a)) = some (.t [], [docO s ((b + k' : Nat) : Int) 2 ((b + k' : Nat) : Int)])
  | (k', true) => rk Tryz.prog pol (dsp (docO s ((b + k : Nat) : Int) 0 a)) = some (.t [], [docO s ((b + k' : Nat) : Int) 0 a])
 | 0, k, hf, hk => dspace_end s (b + k) (by omega) 0 a
 | f + 1, k, hf, hk => by
  unfold skipF
  rcases Nat.lt_or_ge (b + k) s.length with hlt | hge
  ·obtain ⟨c, hd, hg⟩ := drop_at hlt
   have hln := (lineN_le (s.drop (b + k))).1
   have hln1 := (lineN_le (s.drop (b + k))).2 (by rw [hd]; simp)
   have hdl : (s.drop (b + k)).length = s.length - (b + k) := List.length_drop ..
   have nxt : ∀ m : Nat, 1 ≤ m → b + k + m ≤ s.length → rk Tryz.prog pol (dsp (docO s ((b + k : Nat) : Int) 0 a)) = rk Tryz.prog pol (dsp (docO s ((b + k + m : Nat) : Int) 0 a)) →
     match skipF f ((s.drop (b + k)).drop m) (k + m) with
     | (k', false) => rk Tryz.prog pol (dsp (docO s ((b + k : Nat) : Int) 0 a)) = some (.t [], [docO s ((b + k' : Nat) : Int) 2 ((b + k' : Nat) : Int)])
     | (k', true) => rk Tryz.prog pol (dsp (docO s ((b + k : Nat) : Int) 0 a)) = some (.t [], [docO s ((b + k' : Nat) : Int) 0 a]) := by
    intro m h1 h2 h3
    have ih := dspace_s s hs a b f (k + m) (by omega) (by omega)
    rw [h3, List.drop_drop, Nat.add_assoc]
    exact ih
   have st1 := starts_s s [47, 47] (b + k) (by omega) hs (by decide)
   have st2 := starts_s s [47, 42] (b + k) (by omega) hs (by decide)
   have hl1 : ([47, 47] : List UInt8).length = 2 := rfl
   have hl2 : ([47, 42] : List UInt8).length = 2 := rfl
   rw [hl1, hd, two_of] at st1
   rw [hl2, hd, two_of] at st2
   have e35 : ((c.toNat : Int) == 35) = (c == 35) := u8_eqb c 35
   cases hsp : spB c with
   | true =>
    rw [hd]
    simp only [hsp, if_true]
    have := nxt 1 (by omega) (by omega) (dspace_sp s hs (b + k) a c hlt hg hsp)
    rw [hd] at this
    exact this
   | false =>
    have h0 := dspace_ns s (b + k) a c hlt hg hsp
    have line : (c = 35 ∨ (c = 47 ∧ (s.drop (b + k + 1)).head? = some 47)) → rk Tryz.prog pol (dsp (docO s ((b + k : Nat) : Int) 0 a)) = rk Tryz.prog pol (dsp (docO s ((b + k + lineN (s.drop (b + k)) : Nat) : Int) 0 a)) := by
     intro h
     have hL := line_loop s hs 0 a (s.length - (b + k)) (b + k) (by omega)
     have hto : rk Tryz.prog pol (dsp (docO s ((b + k : Nat) : Int) 0 a)) = rk Tryz.prog pol (dsp (docO s ((b + k + ((s.drop (b + k)).takeWhile (· != 10)).length : Nat) : Int) 0 a)) := by
      rw [h0, ← hL]
      unfold docO
      rw [e45_at212, st_F, e35]
      by_cases h35 : c = 35
      ·rw [st_bt (beq_iff_eq.2 h35), interp_call_ret, e45_at980, st_T, interp_call_ret]
      ·have h47 : c = 47 ∧ (s.drop (b + k + 1)).head? = some 47 := h.resolve_left h35
       rw [decide_eq_true h47] at st1
       rw [st_bf (beq_eq_false_iff_ne.2 h35), st_B st1, interp_call_ret, e45_at980, st_T, interp_call_ret]
     rw [hto]
     unfold lineN
     have hsum : ((s.drop (b + k)).takeWhile (· != 10)).length + ((s.drop (b + k)).dropWhile (· != 10)).length = (s.drop (b + k)).length := by
      have := congrArg List.length (List.takeWhile_append_dropWhile (p := (· != (10 : UInt8))) (l := s.drop (b + k)))
      rwa [List.length_append] at this
     by_cases hnil : (s.drop (b + k)).dropWhile (· != 10) = []
     ·rw [if_pos hnil]
      rw [hnil, List.length_nil] at hsum
      rw [show ((s.drop (b + k)).takeWhile (· != 10)).length = (s.drop (b + k)).length by omega]
     ·rw [if_neg hnil, ← Nat.add_assoc]
      have hpos : 0 < ((s.drop (b + k)).dropWhile (· != 10)).length := List.length_pos_iff.2 hnil
      have h10 : getI s ((b + k + ((s.drop (b + k)).takeWhile (· != 10)).length : Nat) : Int) = some 10 := by
       have h1 := List.head?_dropWhile_not (fun x : UInt8 => x != 10) (s.drop (b + k))
       have h2 : s.drop (b + k + ((s.drop (b + k)).takeWhile (· != 10)).length) = (s.drop (b + k)).dropWhile (· != 10) := by
        rw [← List.drop_drop]
        have h3 := List.takeWhile_append_dropWhile (p := (· != (10 : UInt8))) (l := s.drop (b + k))
        calc (s.drop (b + k)).drop ((s.drop (b + k)).takeWhile (· != 10)).length
          = ((s.drop (b + k)).takeWhile (· != 10) ++ (s.drop (b + k)).dropWhile (· != 10)).drop ((s.drop (b + k)).takeWhile (· != 10)).length := by rw [h3]
         _ = _ := by rw [List.drop_left]
       rw [getI_nat, ← List.head?_drop, h2]
       cases hh : ((s.drop (b + k)).dropWhile (· != 10)).head? with
       | none => rw [List.head?_eq_none_iff] at hh; exact absurd hh hnil
       | some x =>
        rw [hh] at h1
        simp at h1
        rw [h1]
      exact dspace_sp s hs _ a 10 (by omega) h10 (by rfl)
    rw [hd] at hln hln1 hdl line nxt
    rw [hd]
    simp only [hsp, Bool.false_eq_true, if_false]
    by_cases h2 : c = 35 ∨ (c = 47 ∧ (s.drop (b + k + 1)).head? = some 47)
    ·rw [if_pos h2]
     exact nxt _ (by omega) (by omega) (line h2)
    ·rw [if_neg h2]
     have h35 : c ≠ 35 := fun e => h2 (Or.inl e)
     have hn1 : ¬ (c = 47 ∧ (s.drop (b + k + 1)).head? = some 47) := fun e => h2 (Or.inr e)
     rw [decide_eq_false hn1] at st1
     by_cases h3 : c = 47 ∧ (s.drop (b + k + 1)).head? = some 42
     ·rw [if_pos h3]
      rw [decide_eq_true h3] at st2
      have hlen1 : b + k + 2 ≤ s.length := by
       rcases Nat.lt_or_ge (b + k + 1) s.length with h | h
       ·omega
       ·rw [List.drop_eq_nil_of_le h] at h3; exact absurd h3.2 (by simp)
      have w2 : IntKind.i64.wrap (((b + k : Nat) : Int) + 2) = ((b + k + 2 : Nat) : Int) := by rw [wrap_i64] <;> omega
      have hN := note_loop s hs (b + k) a (s.length - (b + k + 2)) (b + k + 2) (by omega)
      have hto : rk Tryz.prog pol (dsp (docO s ((b + k : Nat) : Int) 0 a)) = rk Tryz.prog pol (Task.at_ 45 1 [false, false, true, false, true, true, true, true, true, false, true, false, true, false, false] (sv 146 [(0, V.p 0 0), (3, V.d (D.i .i64 ((b + k + 2 : Nat) : Int)))]) [] [docO s ((b + k : Nat) : Int) 0 a]) := by
       rw [h0]
       unfold docO
       rw [e45_at212, st_F, e35, st_bf (beq_eq_false_iff_ne.2 h35), st_B st1, interp_call_ret, e45_at980, st_F, st_B st2, st_T, w2, interp_call_ret]
      have hdd : (s.drop (b + k + 1)).drop 1 = s.drop (b + k + 2) := by rw [List.drop_drop]
      rw [hdd]
      cases he : endN (s.drop (b + k + 2)) with
      | none =>
       rw [he] at hN
       exact hto.trans hN
      | some n =>
       rw [he] at hN
       have hn := endN_le _ _ he
       rw [List.length_drop] at hn
       refine nxt (2 + n) (by omega) (by omega) ?_
       rw [hto, show b + k + (2 + n) = b + k + 2 + n by omega]
       exact hN
     ·rw [if_neg h3]
      rw [decide_eq_false h3] at st2
      show rk Tryz.prog pol (dsp (docO s ((b + k : Nat) : Int) 0 a)) = _
      rw [h0]
      unfold docO
      rw [e45_at212, st_F, e35, st_bf (beq_eq_false_iff_ne.2 h35), st_B st1, interp_call_ret, e45_at980, st_F, st_B st2, st_F, interp_ret]
  ·have := dspace_end s (b + k) hge 0 a
   rw [List.drop_eq_nil_of_le hge]
   exact this
end Go.Dn.Dec
namespace Go.Dn.Dec
open Go.Proofs
section
variable {f : Task → Option Out}
theorem so_G {t : Task} {a b c d e : D} {cs : List V} {fl fl' : Fl} {m : Nat} {dv : D} {K : List V → List D → Tr} (h : f t = some (.d (.g [a, b, c, d, e]), [.cells cs fl])) (hm : cs.length = m) (hf : (fl == fl') = true)
  (h1 : ([V.d a, V.d b, V.d c, V.d d, V.d e].all V.one) = true) :
  interp f (.call t fun o => unCons o.snd fun x l2 => unCells x fun c g => ift (c.length == m) (ift (g == fl') (unNil l2 (asD o.fst fun d => asG 5 d fun l =>
   ift ([V.d (l.getD 0 dv), V.d (l.getD 1 dv), V.d (l.getD 2 dv), V.d (l.getD 3 dv), V.d (l.getD 4 dv)].all V.one) (K c l))))) = interp f (K cs [a, b, c, d, e]) := by
 rw [st_call h]
 show interp f (ift (cs.length == m) (ift (fl == fl') (ift true (ift ([V.d a, V.d b, V.d c, V.d d, V.d e].all V.one) (K cs [a, b, c, d, e]))))) = _
 rw [hm, beq_self_eq_true, st_ift, hf, st_ift, st_ift, h1, st_ift]
end
def behO (s : List UInt8) (i : Nat) (m w : Int) (at_ : Nat) : Ob :=
 if m ≠ 0 then docO s (i : Int) m (at_ : Int) else if behB s i = true then docO s (i : Int) 2 (i : Int) else docO s (i : Int) 0 w
def WroteD (s : List UInt8) (a : Nat) (w : Int) (r : WdR) (o : Option Out) : Prop :=
 match r with
 | .inr (e, w') => e ≠ 0 ∧ ∃ (x : Int) (T : Tok), o = some (.d T.D, [docO s x e (w' : Int)])
 | .inl (t, n) => o = some (.d t.D, [docO s ((a + n : Nat) : Int) 0 w])
theorem wroteD_end (s : List UInt8) (a n : Nat) (w : Int) (T : Tok) : WroteD s a w (behW (s.drop a) n a T) (some (.d T.D, [behO s (a + n) 0 w a])) := by
 have h0 : ¬ ((0 : Int) ≠ 0) := by decide
 rw [beh_eq]
 unfold behO
 rw [if_neg h0]
 cases h : behB s (a + n) with
 | true => exact ⟨by decide, _, _, rfl⟩
 | false => rfl
theorem wroteD_err (s : List UInt8) (a x : Nat) (m w : Int) (hm : m ≠ 0) (T : Tok) : WroteD s a w (.inr (m, a)) (some (.d T.D, [behO s x m w a])) := by
 unfold behO
 rw [if_pos hm]
 exact ⟨hm, _, _, rfl⟩
theorem dbehind_s (s : List UInt8) (i : Nat) (hi : i ≤ s.length) (T : Tok) (m w : Int) :
  rk Tryz.prog pol (Task.call 151 [V.p 0 0, V.d T.D, V.d (D.i .i64 m)] [docO s (i : Int) 0 w]) = some (.d T.D, [behO s i m w T.at_]) := by
 unfold behO
 by_cases hm : m ≠ 0
 ·have hf := dfail_s s (i : Int) 0 w m (T.at_ : Int)
  rw [if_pos hm]
  unfold Tok.D docO at *
  rw [e151, st_ne_t hm, so_0 hf (by rfl) (by rfl), interp_ret]
 ·have hm0 : m = 0 := by omega
  have hf := dfail_s s (i : Int) 0 w 2 (i : Int)
  rw [if_neg hm]
  have two : ∀ b : Bool, rk Tryz.prog pol (Task.at_ 151 1 [true, true, true, false, true] (sv 55 [(0, V.p 0 0), (4, V.p 2 0), (6, V.p 1 0), (47, V.d (D.b b))]) []
    [Ob.cells [V.d (D.i .i64 (T.kind : Int)), V.d (D.s T.text), V.d (D.i .i64 T.n), V.d (D.i .u64 (T.d : Int)), V.d (D.i .i64 (T.at_ : Int))] [],
     Ob.cells [V.d (D.i .i64 0), V.d (D.s []), V.d (D.i .i64 0), V.d (D.i .u64 0), V.d (D.i .i64 0)] [], docO s (i : Int) 0 w]) =
    some (.d T.D, [if b = true then docO s (i : Int) 2 (i : Int) else docO s (i : Int) 0 w]) := by
   intro b
   unfold Tok.D docO at *
   rw [e151_at61]
   cases b with
   | true => rw [st_T, so_0 hf (by rfl) (by rfl), interp_ret, if_pos rfl]
   | false => rw [st_F, interp_ret, if_neg (by decide)]
  have h := two (behB s i)
  rw [← h]
  unfold behB
  rcases Nat.lt_or_ge i s.length with hlt | hge
  ·obtain ⟨c, hd, hg⟩ := drop_at hlt
   have e46 : ((c.toNat : Int) == 46) = (c == 46) := u8_eqb c 46
   rw [hd, List.getD_cons_zero]
   unfold Tok.D docO at *
   rw [e151, st_ne_f hm0, st_t (by omega), st_ob hg, st_B (dlet_s c)]
   cases hl : letB c with
   | true => rw [st_T, interp_call_ret]; rfl
   | false => rw [st_F, st_ob hg, interp_call_ret, e46]; rfl
  ·rw [List.drop_eq_nil_of_le hge]
   unfold Tok.D docO at *
   rw [e151, st_ne_f hm0, st_f (by omega), interp_call_ret]
   rfl
def badD : List UInt8 → Bool
 | [] => false
 | c :: r => (c == 46 && (r.isEmpty || r.head? == some 46)) || badD r
theorem badD_iff : ∀ t : List UInt8, badD t = true ↔ (t.getLast? = some 46 ∨ dotsB t = true)
 | [] => by simp [badD, dotsB]
 | [c] => by simp [badD, dotsB]
 | c :: d :: r => by
  have ih := badD_iff (d :: r)
  unfold badD dotsB
  rw [Bool.or_eq_true, ih, Bool.or_eq_true, List.getLast?_cons_cons]
  simp only [List.isEmpty_cons, Bool.false_or]
  constructor
  ·rintro (h | h | h)
   ·exact Or.inr (Or.inl h)
   ·exact Or.inl h
   ·exact Or.inr (Or.inr h)
  ·rintro (h | h | h)
   ·exact Or.inr (Or.inl h)
   ·exact Or.inl h
   ·exact Or.inr (Or.inr h)
def tk0 : Ob := .cells [V.d (D.i .i64 0), V.d (D.s []), V.d (D.i .i64 0), V.d (D.i .u64 0), V.d (D.i .i64 0)] []
theorem name_dots (s t : List UInt8) (ht : t.length ≤ 1000) (a : Nat) (x w : Int) : ∀ (m i : Nat) (e w' : Int), i + m = t.length →
  rk Tryz.prog pol (Task.at_ 97 1 [false, true, false, true, true, true, true, true] (sv 110 [(0, V.p 0 0), (2, V.p 1 0), (3, V.d (D.i .i64 (a : Int))), (4, V.d (D.s t)), (5, V.d (D.i .i64 (i : Int)))]) [] [tk0, docO s x e w']) =
   some (.d (Tok.D ⟨1, t, 0, 0, a⟩), [docO s x (if badD (t.drop i) = true then 2 else e) (if badD (t.drop i) = true then (a : Int) else w')])
 | 0, i, e, w', h => by
  unfold tk0 docO Tok.D
  rw [e97_at351_1, st_f (by omega), interp_ret, List.drop_eq_nil_of_le (by omega)]
  rfl
 | m + 1, i, e, w', h => by
  obtain ⟨c, hd, hg⟩ := drop_at (show i < t.length by omega)
  have w1 : IntKind.i64.wrap ((i : Int) + 1) = ((i + 1 : Nat) : Int) := by rw [wrap_i64] <;> omega
  have w2 : IntKind.i64.wrap ((t.length : Int) - 1) = ((t.length - 1 : Nat) : Int) := by rw [wrap_i64] <;> omega
  have e46 : ((c.toNat : Int) == 46) = (c == 46) := u8_eqb c 46
  have ih0 := name_dots s t ht a x w m (i + 1) e w' (by omega)
  have ih1 := name_dots s t ht a x w m (i + 1) 2 (a : Int) (by omega)
  have hf := dfail_s s x e w' 2 (a : Int)
  have step : ∀ b : Bool, rk Tryz.prog pol (Task.at_ 97 1 [true, false, false, true, false, false, true, false, true, true, true, true, true]
    (sv 110 [(0, V.p 0 0), (2, V.p 1 0), (3, V.d (D.i .i64 (a : Int))), (4, V.d (D.s t)), (5, V.d (D.i .i64 (i : Int))), (103, V.d (D.b b))]) [] [tk0, docO s x e w']) =
    some (.d (Tok.D ⟨1, t, 0, 0, a⟩), [docO s x (if (b || badD (t.drop (i + 1))) = true then 2 else e) (if (b || badD (t.drop (i + 1))) = true then (a : Int) else w')]) := by
   intro b
   cases b with
   | false =>
    rw [Bool.false_or, ← ih0]
    unfold tk0 docO
    rw [e97_at12895_1, st_F, w1, interp_call_ret]
   | true =>
    have : some ((V.d (Tok.D ⟨1, t, 0, 0, a⟩)), [docO s x 2 (a : Int)]) = some ((V.d (Tok.D ⟨1, t, 0, 0, a⟩)), [docO s x (if badD (t.drop (i + 1)) = true then 2 else 2) (if badD (t.drop (i + 1)) = true then (a : Int) else (a : Int))]) := by
     split <;> rfl
    rw [Bool.true_or, if_pos rfl, if_pos rfl, this, ← ih1]
    unfold tk0 docO at *
    rw [e97_at12895_1, st_T, so_0 hf (by rfl) (by rfl), w1, interp_call_ret]
  rw [hd]
  have hb : badD (c :: t.drop (i + 1)) = ((c == 46 && ((t.drop (i + 1)).isEmpty || (t.drop (i + 1)).head? == some 46)) || badD (t.drop (i + 1))) := rfl
  rw [hb, ← step]
  unfold tk0 docO
  rw [e97_at351_1, st_t (by omega), st_ob hg, e46]
  cases h46 : (c == 46) with
  | false => rw [st_F, interp_call_ret]; rfl
  | true =>
   rw [st_T, w2]
   by_cases hlast : i + 1 = t.length
   ·rw [st_eq (by omega), interp_call_ret, List.drop_eq_nil_of_le (by omega)]
    rfl
   ·obtain ⟨d, hd2, hg2⟩ := drop_at (show i + 1 < t.length by omega)
    have e46d : ((d.toNat : Int) == 46) = (d == 46) := u8_eqb d 46
    have e46o : (some d == some (46 : UInt8)) = (d == 46) := by
     rw [Bool.eq_iff_iff, beq_iff_eq, beq_iff_eq]; exact ⟨fun h => Option.some.inj h, fun h => by rw [h]⟩
    rw [st_ne (by omega), w1, st_ob hg2, interp_call_ret, e46d, hd2]
    show _ = rk Tryz.prog pol (Task.at_ 97 1 _ (sv 110 [(0, V.p 0 0), (2, V.p 1 0), (3, V.d (D.i .i64 (a : Int))), (4, V.d (D.s t)), (5, V.d (D.i .i64 (i : Int))), (103, V.d (D.b (some d == some 46)))]) [] _)
    rw [e46o]
theorem name_loop (s : List UInt8) (hs : s.length ≤ 10000) (a : Nat) (w : Int) : ∀ (m i : Nat), i + m = s.length →
  rk Tryz.prog pol (Task.at_ 97 1 [false, false, true, true] (sv 110 [(0, V.p 0 0), (2, V.p 1 0), (3, V.d (D.i .i64 (a : Int)))]) [] [tk0, docO s (i : Int) 0 w]) =
   rk Tryz.prog pol (Task.at_ 97 1 [true, false, false, false, false, true, true] (sv 110 [(0, V.p 0 0), (2, V.p 1 0), (3, V.d (D.i .i64 (a : Int))), (55, V.d (D.b false))]) [] [tk0, docO s ((i + ((s.drop i).takeWhile nameB).length : Nat) : Int) 0 w])
 | 0, i, h => by
  unfold tk0 docO
  rw [e97_at19, st_f (by omega), interp_call_ret, List.drop_eq_nil_of_le (by omega)]
  rfl
 | m + 1, i, h => by
  obtain ⟨c, hd, hg⟩ := drop_at (show i < s.length by omega)
  have ih := name_loop s hs a w m (i + 1) (by omega)
  have w1 : IntKind.i64.wrap ((i : Int) + 1) = ((i + 1 : Nat) : Int) := by rw [wrap_i64] <;> omega
  have e46 : ((c.toNat : Int) == 46) = (c == 46) := u8_eqb c 46
  have go : rk Tryz.prog pol (Task.at_ 97 1 [false, false, true, true] (sv 110 [(0, V.p 0 0), (2, V.p 1 0), (3, V.d (D.i .i64 (a : Int)))]) [] [tk0, docO s (i : Int) 0 w]) =
    rk Tryz.prog pol (Task.at_ 97 1 [true, false, false, false, false, true, true] (sv 110 [(0, V.p 0 0), (2, V.p 1 0), (3, V.d (D.i .i64 (a : Int))), (55, V.d (D.b (nameB c)))]) [] [tk0, docO s (i : Int) 0 w]) := by
   unfold tk0 docO nameB
   rw [e97_at19, st_t (by omega), st_ob hg, st_B (dlet_s c)]
   cases hl : letB c with
   | true => rw [st_T, interp_call_ret]; rfl
   | false =>
    rw [st_F, st_ob hg, st_B (ddig_s c)]
    cases hd : isDig c with
    | true => rw [st_T, interp_call_ret]; rfl
    | false => rw [st_F, st_ob hg, interp_call_ret, e46]; rfl
  rw [go, hd, List.takeWhile_cons]
  cases hn : nameB c with
  | false => rw [if_neg (by decide)]; rfl
  | true =>
   rw [if_pos rfl, List.length_cons, show i + (((s.drop (i + 1)).takeWhile nameB).length + 1) = i + 1 + ((s.drop (i + 1)).takeWhile nameB).length by omega, ← ih]
   unfold tk0 docO
   rw [e97_at195, st_T, w1, interp_call_ret]
theorem dname_w (s : List UInt8) (hs : s.length ≤ 1000) (a : Nat) (ha : a ≤ s.length) (w : Int) : WroteD s a w (nameW (s.drop a) a) (rk Tryz.prog pol (Task.call 97 [V.p 0 0] [docO s (a : Int) 0 w])) := by
 have hL := name_loop s (by omega) a w (s.length - a) a (by omega)
 have hself := take_self (s.drop a) nameB
 have hle := tw_len (s.drop a) nameB
 rw [List.length_drop] at hle
 have go : rk Tryz.prog pol (Task.call 97 [V.p 0 0] [docO s (a : Int) 0 w]) = rk Tryz.prog pol (Task.at_ 97 1 [false, false, true, true] (sv 110 [(0, V.p 0 0), (2, V.p 1 0), (3, V.d (D.i .i64 (a : Int)))]) [] [tk0, docO s (a : Int) 0 w]) := by
  unfold tk0 docO; rw [e97, interp_call_ret]
 have htk : List.take ((((a + ((s.drop a).takeWhile nameB).length : Nat) : Int)).toNat - (a : Int).toNat) (List.drop (a : Int).toNat s) = (s.drop a).takeWhile nameB := by
  rw [Int.toNat_natCast, Int.toNat_natCast, Nat.add_sub_cancel_left, ← hself]
 rw [go, hL]
 unfold nameW
 simp only
 generalize (s.drop a).takeWhile nameB = t at *
 have hf := dfail_s s ((a + t.length : Nat) : Int) 0 w 4 (a : Int)
 have hD := name_dots s t (by omega) a ((a + t.length : Nat) : Int) w t.length 0 0 w (by omega)
 rw [List.drop_zero] at hD
 by_cases h1 : 120 < t.length
 ·rw [if_pos h1]
  refine ⟨by decide, ((a + t.length : Nat) : Int), ⟨0, [], 0, 0, 0⟩, ?_⟩
  unfold tk0 docO at *
  rw [e97_at195, st_F, st_if (by omega), st_if (by omega), htk, st_t (by omega), so_0 hf (by rfl) (by rfl), interp_ret]
  rfl
 ·rw [if_neg h1]
  have go2 : rk Tryz.prog pol (Task.at_ 97 1 [true, false, false, false, false, true, true] (sv 110 [(0, V.p 0 0), (2, V.p 1 0), (3, V.d (D.i .i64 (a : Int))), (55, V.d (D.b false))]) [] [tk0, docO s ((a + t.length : Nat) : Int) 0 w]) =
    some (.d (Tok.D ⟨1, t, 0, 0, a⟩), [docO s ((a + t.length : Nat) : Int) (if badD t = true then 2 else 0) (if badD t = true then (a : Int) else w)]) := by
   rw [← hD]
   unfold tk0 docO
   rw [e97_at195, st_F, st_if (by omega), st_if (by omega), htk, st_f (by omega), interp_call_ret]
   rfl
  rw [go2]
  by_cases h2 : t.getLast? = some 46 ∨ dotsB t = true
  ·rw [if_pos h2, (badD_iff t).2 h2]
   exact ⟨by decide, _, _, rfl⟩
  ·rw [if_neg h2]
   have hb : badD t = false := by
    cases e : badD t with
    | false => rfl
    | true => exact absurd ((badD_iff t).1 e) h2
   rw [hb]
   rfl
theorem or16 (y d : Nat) (hd : d < 16) (hy : 16 * y < 18446744073709551616) : IntKind.u64.wrap ((BitVec.ofInt IntKind.u64.bits ((16 * y : Nat) : Int) ||| BitVec.ofInt IntKind.u64.bits ((d : Nat) : Int)).toNat : Int) = ((16 * y + d : Nat) : Int) := by
 have h1 : 2 ^ 4 * y + d = 2 ^ 4 * y ||| d := Nat.two_pow_add_eq_or_of_lt (by omega) y
 have e64 : IntKind.u64.bits = 64 := rfl
 rw [e64, BitVec.toNat_or, BitVec.ofInt_natCast, BitVec.ofInt_natCast, BitVec.toNat_ofNat, BitVec.toNat_ofNat, Nat.mod_eq_of_lt (by omega), Nat.mod_eq_of_lt (by omega), show 16 * y = 2 ^ 4 * y by omega, ← h1, u64_wrap]
 omega
def hex64 (v : Nat) (l : List UInt8) : Nat := l.foldl (fun a c => a * 16 % 18446744073709551616 + hexVal c) v
theorem hex64_small : ∀ (l : List UInt8) (k v : Nat), v < 16 ^ k → k + l.length ≤ 16 → (∀ c ∈ l, hexB c = true) → hex64 v l = l.foldl (fun a c => a * 16 + hexVal c) v
 | [], _, _, _, _, _ => rfl
 | c :: l, k, v, hv, hk, hd => by
  rw [List.length_cons] at hk
  have hx := hexVal_lt c (hd c (by simp))
  have h15 : 16 ^ k ≤ 16 ^ 15 := Nat.pow_le_pow_right (by decide) (by omega)
  have hv1 : v < 1152921504606846976 := Nat.lt_of_lt_of_le hv (Nat.le_trans h15 (by decide))
  have hm : v * 16 % 18446744073709551616 = v * 16 := Nat.mod_eq_of_lt (by omega)
  have hn : v * 16 + hexVal c < 16 ^ (k + 1) := by rw [Nat.pow_succ]; omega
  have ih := hex64_small l (k + 1) (v * 16 + hexVal c) hn (by omega) (fun c h => hd c (by simp [h]))
  show hex64 (v * 16 % 18446744073709551616 + hexVal c) l = l.foldl (fun a c => a * 16 + hexVal c) (v * 16 + hexVal c)
  rw [hm, ih]
theorem six_loop (s : List UInt8) (hs : s.length ≤ 10000) (f0 a : Nat) (w : Int) : ∀ (m i v : Nat), i + m = s.length → v < 18446744073709551616 →
  rk Tryz.prog pol (Task.at_ 146 1 [false, false, true, true, true, true, true] (sv 84 [(0, V.p 0 0), (2, V.p 1 0), (3, V.p 2 0), (4, V.d (D.i .i64 (f0 : Int))), (5, V.d (D.i .u64 (v : Int)))]) []
   [Ob.cells [V.d (D.i .i64 2), V.d (D.s []), V.d (D.i .i64 0), V.d (D.i .u64 0), V.d (D.i .i64 (a : Int))] [], tk0, docO s (i : Int) 0 w]) =
  rk Tryz.prog pol (Task.at_ 146 1 [true, false, false, false, false, true, true, true, true, true] (sv 84 [(0, V.p 0 0), (2, V.p 1 0), (3, V.p 2 0), (4, V.d (D.i .i64 (f0 : Int))), (5, V.d (D.i .u64 ((hex64 v ((s.drop i).takeWhile hexB) : Nat) : Int))), (46, V.d (D.b false))]) []
   [Ob.cells [V.d (D.i .i64 2), V.d (D.s []), V.d (D.i .i64 0), V.d (D.i .u64 0), V.d (D.i .i64 (a : Int))] [], tk0, docO s ((i + ((s.drop i).takeWhile hexB).length : Nat) : Int) 0 w])
 | 0, i, v, h, hv => by
  unfold tk0 docO
  rw [e146_at159, st_f (by omega), interp_call_ret, List.drop_eq_nil_of_le (by omega)]
  rfl
 | m + 1, i, v, h, hv => by
  obtain ⟨c, hd, hg⟩ := drop_at (show i < s.length by omega)
  have w1 : IntKind.i64.wrap ((i : Int) + 1) = ((i + 1 : Nat) : Int) := by rw [wrap_i64] <;> omega
  have hx := dhex_s c
  rw [hd, List.takeWhile_cons]
  cases hc : hexB c with
  | false =>
   rw [hc] at hx
   rw [if_neg (by decide)]
   unfold tk0 docO
   rw [e146_at159, st_t (by omega), st_ob hg, st_I hx, interp_call_ret]
   rfl
  | true =>
   rw [hc, if_pos rfl] at hx
   have hlt := hexVal_lt c hc
   have e1 : v * 16 % 18446744073709551616 = 16 * (v % 1152921504606846976) := by omega
   have ih := six_loop s hs f0 a w m (i + 1) (v * 16 % 18446744073709551616 + hexVal c) (by omega) (by omega)
   have wv : IntKind.u64.wrap ((v : Int) * 16) = ((16 * (v % 1152921504606846976) : Nat) : Int) := by rw [u64_wrap]; omega
   have wd : IntKind.u64.wrap ((hexVal c : Nat) : Int) = ((hexVal c : Nat) : Int) := by rw [u64_wrap]; omega
   have wo := or16 (v % 1152921504606846976) (hexVal c) hlt (by omega)
   rw [if_pos rfl, List.length_cons, show i + (((s.drop (i + 1)).takeWhile hexB).length + 1) = i + 1 + ((s.drop (i + 1)).takeWhile hexB).length by omega]
   show _ = rk Tryz.prog pol (Task.at_ 146 1 _ (sv 84 [(0, V.p 0 0), (2, V.p 1 0), (3, V.p 2 0), (4, V.d (D.i .i64 (f0 : Int))), (5, V.d (D.i .u64 ((hex64 (v * 16 % 18446744073709551616 + hexVal c) ((s.drop (i + 1)).takeWhile hexB) : Nat) : Int))), (46, V.d (D.b false))]) [] _)
   rw [← ih, e1]
   unfold tk0 docO
   rw [e146_at159, st_t (by omega), st_ob hg, st_I hx, interp_call_ret, decide_eq_true (Int.natCast_nonneg _), e146_at1567, st_T, st_ob hg, st_I hx, wv, wd, wo, w1, interp_call_ret]
theorem dsixteen_w (s : List UInt8) (hs : s.length ≤ 1000) (a : Nat) (ha : a + 2 ≤ s.length) (w : Int) : WroteD s a w (hexW (s.drop a) a) (rk Tryz.prog pol (Task.call 146 [V.p 0 0] [docO s (a : Int) 0 w])) := by
 have hL := six_loop s (by omega) (a + 2) a w (s.length - (a + 2)) (a + 2) 0 (by omega) (by decide)
 have hle := tw_len (s.drop (a + 2)) hexB
 have hall := take_all hexB (s.drop (a + 2))
 rw [List.length_drop] at hle
 have w2 : IntKind.i64.wrap ((a : Int) + 2) = ((a + 2 : Nat) : Int) := by rw [wrap_i64] <;> omega
 have go : rk Tryz.prog pol (Task.call 146 [V.p 0 0] [docO s (a : Int) 0 w]) =
   rk Tryz.prog pol (Task.at_ 146 1 [false, false, true, true, true, true, true] (sv 84 [(0, V.p 0 0), (2, V.p 1 0), (3, V.p 2 0), (4, V.d (D.i .i64 ((a + 2 : Nat) : Int))), (5, V.d (D.i .u64 ((0 : Nat) : Int)))]) []
    [Ob.cells [V.d (D.i .i64 2), V.d (D.s []), V.d (D.i .i64 0), V.d (D.i .u64 0), V.d (D.i .i64 (a : Int))] [], tk0, docO s ((a + 2 : Nat) : Int) 0 w]) := by
  unfold tk0 docO
  rw [e146, w2, interp_call_ret]
  rfl
 rw [go, hL]
 unfold hexW
 rw [List.drop_drop]
 simp only
 generalize (s.drop (a + 2)).takeWhile hexB = h at *
 have wl : IntKind.i64.wrap (((a + 2 + h.length : Nat) : Int) - ((a + 2 : Nat) : Int)) = (h.length : Int) := by rw [wrap_i64] <;> omega
 have fin : ∀ (V0 : Nat) (er : Int), rk Tryz.prog pol (Task.at_ 146 1 [true, true, true, true, true, true, true, true] (sv 84 [(0, V.p 0 0), (2, V.p 1 0), (3, V.p 2 0), (5, V.d (D.i .u64 (V0 : Int))), (6, V.d (D.i .i64 er))]) []
   [Ob.cells [V.d (D.i .i64 2), V.d (D.s []), V.d (D.i .i64 0), V.d (D.i .u64 0), V.d (D.i .i64 (a : Int))] [], tk0, docO s ((a + 2 + h.length : Nat) : Int) 0 w]) =
   some (.d (Tok.D ⟨2, [], IntKind.i64.wrap (V0 : Int), 0, a⟩), [behO s (a + 2 + h.length) er w a]) := by
  intro V0 er
  have hb : rk Tryz.prog pol (Task.call 151 [V.p 0 0, V.d (D.g [D.i .i64 2, D.s [], D.i .i64 (IntKind.i64.wrap (V0 : Int)), D.i .u64 0, D.i .i64 (a : Int)]), V.d (D.i .i64 er)] [docO s ((a + 2 + h.length : Nat) : Int) 0 w]) =
    some (.d (D.g [D.i .i64 2, D.s [], D.i .i64 (IntKind.i64.wrap (V0 : Int)), D.i .u64 0, D.i .i64 (a : Int)]), [behO s (a + 2 + h.length) er w a]) := dbehind_s s (a + 2 + h.length) (by omega) ⟨2, [], IntKind.i64.wrap (V0 : Int), 0, a⟩ er w
  have hcs : ∃ cs, behO s (a + 2 + h.length) er w a = .cells cs [] ∧ cs.length = 4 := by
   unfold behO docO
   split
   ·exact ⟨_, rfl, rfl⟩
   ·split
    ·exact ⟨_, rfl, rfl⟩
    ·exact ⟨_, rfl, rfl⟩
  obtain ⟨cs, hcs, hl⟩ := hcs
  rw [hcs] at hb ⊢
  unfold tk0
  unfold docO at *
  rw [e146_at511, so_G hb hl (by rfl) (by rfl), interp_ret]
  rfl
 have out : ∀ (V0 : Nat) (er : Int), er = (if 16 < h.length then 4 else if 9223372036854775807 < V0 then 5 else 0) →
   rk Tryz.prog pol (Task.at_ 146 1 [true, false, false, false, false, true, true, true, true, true] (sv 84 [(0, V.p 0 0), (2, V.p 1 0), (3, V.p 2 0), (4, V.d (D.i .i64 ((a + 2 : Nat) : Int))), (5, V.d (D.i .u64 (V0 : Int))), (46, V.d (D.b false))]) []
    [Ob.cells [V.d (D.i .i64 2), V.d (D.s []), V.d (D.i .i64 0), V.d (D.i .u64 0), V.d (D.i .i64 (a : Int))] [], tk0, docO s ((a + 2 + h.length : Nat) : Int) 0 w]) =
   some (.d (Tok.D ⟨2, [], IntKind.i64.wrap (V0 : Int), 0, a⟩), [behO s (a + 2 + h.length) er w a]) := by
  intro V0 er he
  rw [← fin V0 er]
  subst he
  by_cases h16 : 16 < h.length
  ·rw [if_pos h16]
   unfold tk0 docO
   rw [e146_at1567, st_F, wl, st_t (by omega), interp_call_ret]
  ·rw [if_neg h16]
   by_cases h63 : 9223372036854775807 < V0
   ·rw [if_pos h63]
    unfold tk0 docO
    rw [e146_at1567, st_F, wl, st_f (by omega), st_t (by omega), interp_call_ret]
   ·rw [if_neg h63]
    unfold tk0 docO
    rw [e146_at1567, st_F, wl, st_f (by omega), st_f (by omega), interp_call_ret]
 by_cases h16 : 16 < h.length
 ·rw [if_pos h16, out (hex64 0 h) 4 (if_pos h16).symm]
  exact wroteD_err s a _ 4 w (by decide) _
 ·rw [if_neg h16]
  have hsm : hex64 0 h = hexV h := hex64_small h 0 0 (by decide) (by omega) (fun c hc => List.all_eq_true.1 hall c hc)
  rw [hsm]
  by_cases h63 : 2 ^ 63 ≤ hexV h
  ·rw [if_pos h63, out (hexV h) 5 (by rw [if_neg h16, if_pos (by omega)])]
   exact wroteD_err s a _ 5 w (by decide) _
  ·have hw : IntKind.i64.wrap ((hexV h : Nat) : Int) = ((hexV h : Nat) : Int) := by rw [wrap_i64] <;> omega
   rw [if_neg h63, out (hexV h) 0 (by rw [if_neg h16, if_neg (by omega)]), hw, Nat.add_assoc]
   exact wroteD_end s a (2 + h.length) w _
def tenR (r : Int × Bool) : Option Out := some (if r.2 = true then .t [.d (.i .i64 r.1), .d (.i .i64 0)] else .t [.d (.i .i64 0), .d (.i .i64 5)], [])
theorem whole_f (v : Nat) : wholeB false v = ((v : Int), decide (v < 2 ^ 63)) := rfl
theorem whole_t (v : Nat) : wholeB true v = (-(v : Int), decide (v ≤ 2 ^ 63)) := rfl
theorem tenR_t {n : Int} {b : Bool} (h : b = true) : tenR (n, b) = some (.t [.d (.i .i64 n), .d (.i .i64 0)], []) := by subst h; rfl
theorem tenR_f {n : Int} {b : Bool} (h : b = false) : tenR (n, b) = some (.t [.d (.i .i64 0), .d (.i .i64 5)], []) := by subst h; rfl
theorem dten_loop (neg : Bool) : ∀ (r p : List UInt8) (v : Nat), (∀ c ∈ r, isDig c = true) → (p ++ r).length ≤ 1000 → v ≤ 9223372036854775808 →
  rk Tryz.prog pol (Task.at_ 149 0 [false, true, false, true, true, true, true, true] (sv 56 [(0, V.d (D.s (p ++ r))), (4, V.d (D.b neg)), (5, V.d (D.i .u64 (v : Int))), (6, V.d (D.i .i64 (p.length : Int)))]) [] []) = tenR (wholeB neg (numF v r))
 | [], p, v, hd, hl, hv => by
  rw [List.append_nil, e149_at351, st_f (by omega)]
  show _ = tenR (wholeB neg v)
  cases neg with
  | false =>
   rw [st_nf, interp_call_ret, e149_at447, whole_f]
   by_cases h : v < 2 ^ 63
   ·rw [decide_eq_false (by omega), st_F, st_F, interp_ret, tenR_t (decide_eq_true h), wrap_i64 (by omega) (by omega)]
   ·rw [decide_eq_true (by omega), st_T, interp_ret, tenR_f (decide_eq_false h)]
  | true =>
   rw [st_nt, interp_call_ret, e149_at447, st_F, st_T, interp_ret, whole_t, tenR_t (decide_eq_true (by omega))]
   have e : IntKind.i64.wrap (IntKind.i64.wrap (0 - IntKind.i64.wrap (IntKind.u64.wrap ((v : Int) - 1))) - 1) = -(v : Int) := by
    rcases Nat.eq_zero_or_pos v with h0 | h0
    ·subst h0; rfl
    ·have w1 : IntKind.u64.wrap ((v : Int) - 1) = (v : Int) - 1 := by rw [u64_wrap]; omega
     rw [w1, wrap_i64 (n := (v : Int) - 1) (by omega) (by omega), wrap_i64 (n := 0 - ((v : Int) - 1)) (by omega) (by omega), wrap_i64 (by omega) (by omega)]
     omega
   rw [e]
 | c :: r, p, v, hd, hl, hv => by
  have hc := hd c (by simp)
  have hcl := digV_lt hc
  have hi : p.length < (p ++ c :: r).length := by simp
  have g : getI (p ++ c :: r) (p.length : Int) = some c := by rw [getI_nat]; simp
  have hpl : (p ++ [c]).length = p.length + 1 := by simp
  have hlen : p.length + (r.length + 1) ≤ 1000 := by simpa using hl
  have w0 : IntKind.u64.wrap ((digV c : Nat) : Int) = ((digV c : Nat) : Int) := by rw [u64_wrap]; omega
  have w1 : IntKind.u64.wrap (9223372036854775808 - ((digV c : Nat) : Int)) = ((9223372036854775808 - digV c : Nat) : Int) := by rw [u64_wrap]; omega
  have wt : (((9223372036854775808 - digV c : Nat) : Int)).tdiv 10 = (((9223372036854775808 - digV c) / 10 : Nat) : Int) := by
   rw [Int.tdiv_eq_ediv_of_nonneg (by omega)]; rfl
  have w2 : IntKind.u64.wrap ((((9223372036854775808 - digV c) / 10 : Nat) : Int)) = (((9223372036854775808 - digV c) / 10 : Nat) : Int) := by rw [u64_wrap]; omega
  have hnum : numF v (c :: r) = numF (v * 10 + digV c) r := rfl
  rw [e149_at351, st_t (by omega), st_ob g, u8_sub hc, w0, w1, wt, w2, hnum]
  by_cases h : (9223372036854775808 - digV c) / 10 < v
  ·have hbig : 2 ^ 63 < numF (v * 10 + digV c) r := by
    have h1 := numF_ge r (v * 10 + digV c)
    have h2 : (v * 10 + digV c) * 1 ≤ (v * 10 + digV c) * 10 ^ r.length := Nat.mul_le_mul_left _ (Nat.pos_of_ne_zero (by simp))
    omega
   rw [st_t (by omega), interp_ret]
   cases neg with
   | true => rw [whole_t, tenR_f (decide_eq_false (by omega))]
   | false => rw [whole_f, tenR_f (decide_eq_false (by omega))]
  ·have w3 : IntKind.u64.wrap ((v : Int) * 10) = ((v * 10 : Nat) : Int) := by rw [u64_wrap]; omega
   have w4 : IntKind.u64.wrap (((v * 10 : Nat) : Int) + ((digV c : Nat) : Int)) = ((v * 10 + digV c : Nat) : Int) := by rw [u64_wrap]; omega
   have w5 : IntKind.i64.wrap ((p.length : Int) + 1) = ((p.length + 1 : Nat) : Int) := by rw [wrap_i64] <;> omega
   have ih := dten_loop neg r (p ++ [c]) (v * 10 + digV c) (fun c h => hd c (by simp [h])) (by simpa using hl) (by omega)
   rw [List.append_assoc, List.singleton_append, hpl] at ih
   rw [st_f (by omega), w3, w4, w5, interp_call_ret, ih]
theorem dten_s (sg ds : List UInt8) (hsg : sg = [] ∨ sg = [43] ∨ sg = [45]) (hds : ∀ c ∈ ds, isDig c = true) (hne : sg ++ ds ≠ []) (hl : (sg ++ ds).length ≤ 1000) :
  rk Tryz.prog pol (Task.call 149 [V.d (D.s (sg ++ ds))] []) = if 60 < ds.length then some (.t [.d (.i .i64 0), .d (.i .i64 4)], []) else tenR (wholeB ((sg ++ ds).head? == some 45) (numB ds)) := by
 have hL := fun neg => dten_loop neg ds [] 0 hds (by simp at hl ⊢; omega) (by decide)
 have hcut : ∀ c : UInt8, List.take ((c :: ds).length - 1) (List.drop 1 (c :: ds)) = ds := by intro c; simp
 have fin : ∀ neg : Bool, interp (rk Tryz.prog pol) (brB (decide ((ds.length : Int) > 60)) (Tr.ret (V.t [V.d (D.i .i64 0), V.d (D.i .i64 4)], []))
   (Tr.call (Task.at_ 149 0 [false, true, false, true, true, true, true, true] (sv 56 [(0, V.d (D.s ds)), (4, V.d (D.b neg)), (5, V.d (D.i .u64 0)), (6, V.d (D.i .i64 0))]) [] []) Tr.ret)) =
   if 60 < ds.length then some (.t [.d (.i .i64 0), .d (.i .i64 4)], []) else tenR (wholeB neg (numB ds)) := by
  intro neg
  by_cases h : 60 < ds.length
  ·rw [st_t (by omega), interp_ret, if_pos h]
  ·rw [st_f (by omega), interp_call_ret, if_neg h]
   exact hL neg
 rcases hsg with rfl | rfl | rfl
 ·rw [List.nil_append]
  rw [List.nil_append] at hne
  cases hds' : ds with
  | nil => exact absurd hds' hne
  | cons c q =>
   have hc := hds c (by rw [hds']; simp)
   have h43 : (c == 43) = false := beq_eq_false_iff_ne.2 fun e => by rw [e] at hc; exact absurd hc (by decide)
   have h45 : (c == 45) = false := beq_eq_false_iff_ne.2 fun e => by rw [e] at hc; exact absurd hc (by decide)
   have g : getI (c :: q) 0 = some c := rfl
   have e45 : ((c.toNat : Int) == 45) = (c == 45) := u8_eqb c 45
   have e43 : ((c.toNat : Int) == 43) = (c == 43) := u8_eqb c 43
   have hh : ((c :: q).head? == some 45) = false := by
    show (some c == some 45) = false
    exact beq_eq_false_iff_ne.2 fun e => by injection e with e; rw [e] at h45; simp at h45
   have := fin false
   rw [hds'] at this
   rw [e149, st_ob g, e45, h45, st_F, st_ob g, e43, h43, interp_call_ret, e149_at27, st_F, hh]
   exact this
 ·have g : getI ([43] ++ ds) 0 = some 43 := rfl
  rw [e149, st_ob g, show (((43 : UInt8).toNat : Int) == 45) = false from rfl, st_F, st_ob g, show (((43 : UInt8).toNat : Int) == 43) = true from rfl, interp_call_ret, e149_at27, st_T, List.singleton_append, hcut, st_if (by rw [List.length_cons]; omega)]
  exact fin false
 ·have g : getI ([45] ++ ds) 0 = some 45 := rfl
  rw [e149, st_ob g, show (((45 : UInt8).toNat : Int) == 45) = true from rfl, st_T, interp_call_ret, e149_at27, st_T, List.singleton_append, hcut, st_if (by rw [List.length_cons]; omega)]
  exact fin true
end Go.Dn.Dec
namespace Go.Dn.Dec
open Go.Proofs
section
variable {f : Task → Option Out}
theorem cs_1 {a c d : V} {i : Int} {K : Int → Tr} : interp f (ob [a, V.d (D.i .i64 i), c, d][1]? fun v => asD v fun d => asI .i64 d fun n => K n) = interp f (K i) := by
 rw [st_ob (a := V.d (D.i .i64 i)) (by rfl), asD_d, st_asI]
theorem cs_0 {b c d : V} {s : List UInt8} {K : List UInt8 → Tr} : interp f (ob [V.d (D.s s), b, c, d][0]? fun v => asD v fun d => asS d fun n => K n) = interp f (K s) := by
 rw [st_ob (a := V.d (D.s s)) (by rfl), asD_d, asS_s]
theorem st_if' {b : Bool} {X : Tr} (h : b = true) : interp f (ift b X) = interp f X := by rw [h, st_ift]
theorem set4_1 (a b c d v : V) : [a, b, c, d].set 1 v = [a, v, c, d] := rfl
end
theorem expN_cons (c : UInt8) (q : List UInt8) : expN (c :: q) = if c = 101 ∨ c = 69 then (if (((c :: q).drop (expK q)).takeWhile isDig) = [] then 0 else expK q + (((c :: q).drop (expK q)).takeWhile isDig).length) else 0 := rfl
theorem expK_cons (d : UInt8) (q : List UInt8) : expK (d :: q) = if d = 43 ∨ d = 45 then 2 else 1 := rfl
abbrev nv (a : Nat) (r : List (Nat × V)) : List (Nat × V) := (0, V.p 0 0) :: (2, V.p 1 0) :: (3, V.d (D.i .i64 (a : Int))) :: r
abbrev n447 (a : Nat) (wh fr : Bool) (o : Ob) : Task := Task.at_ 99 1 [true, false, true, true, true, true, true, true] (sv 242 (nv a [(4, V.d (D.b wh)), (97, V.d (D.b fr))])) [] [tk0, o]
abbrev n895 (a : Nat) (wh ex : Bool) (o : Ob) : Task := Task.at_ 99 1 [true, false, true, true, true, true, true, true, true] (sv 242 (nv a [(4, V.d (D.b wh)), (140, V.d (D.b ex))])) [] [tk0, o]
abbrev n3455 (a : Nat) (wh sg : Bool) (o : Ob) : Task := Task.at_ 99 1 [true, false, true, false, true, true, true, true, true, true, true] (sv 242 (nv a [(4, V.d (D.b wh)), (5, V.d (D.b sg))])) [] [tk0, o]
abbrev n7551 (a : Nat) (wh sg go : Bool) (o : Ob) : Task := Task.at_ 99 1 [true, true, false, true, false, true, true, true, true, true, true, true] (sv 242 (nv a [(4, V.d (D.b wh)), (5, V.d (D.b sg)), (186, V.d (D.b go))])) [] [tk0, o]
theorem beh_cells (s : List UInt8) (i : Nat) (m w : Int) (a : Nat) : ∃ cs, behO s i m w a = .cells cs [] ∧ cs.length = 4 := by
 unfold behO docO
 split
 ·exact ⟨_, rfl, rfl⟩
 ·split
  ·exact ⟨_, rfl, rfl⟩
  ·exact ⟨_, rfl, rfl⟩
theorem num_4095 (s : List UInt8) (x : Nat) (hx : x ≤ s.length) (w er : Int) (k : Nat) (n : Int) (d a : Nat) :
  rk Tryz.prog pol (Task.at_ 99 1 [true, true, true, true, true, true, true, true, true, true, true] (sv 242 [(0, V.p 0 0), (2, V.p 1 0), (6, V.p 2 0), (7, V.d (D.i .i64 er))]) []
   [Ob.cells [V.d (D.i .i64 (k : Int)), V.d (D.s []), V.d (D.i .i64 n), V.d (D.i .u64 (d : Int)), V.d (D.i .i64 (a : Int))] [], tk0, docO s (x : Int) 0 w]) =
   some (.d (Tok.D ⟨k, [], n, d, a⟩), [behO s x er w a]) := by
 have hb := dbehind_s s x hx ⟨k, [], n, d, a⟩ er w
 obtain ⟨cs, hcs, hl⟩ := beh_cells s x er w a
 have hb : rk Tryz.prog pol (Task.call 151 [V.p 0 0, V.d (D.g [D.i .i64 (k : Int), D.s [], D.i .i64 n, D.i .u64 (d : Int), D.i .i64 (a : Int)]), V.d (D.i .i64 er)] [docO s (x : Int) 0 w]) =
   some (.d (D.g [D.i .i64 (k : Int), D.s [], D.i .i64 n, D.i .u64 (d : Int), D.i .i64 (a : Int)]), [.cells cs []]) := by rw [← hcs]; exact hb
 rw [hcs]
 unfold tk0
 unfold docO at *
 rw [e99_at4095, so_G hb (by exact hl) (by rfl) (by rfl), interp_ret]
 rfl
def dblO (s : List UInt8) (a x : Nat) (w : Int) : Option Out := some (.d (Tok.D ⟨3, [], 0, (parseB ((s.drop a).take (x - a))).1, a⟩), [behO s x (parseB ((s.drop a).take (x - a))).2 w a])
theorem doc_parse (s : List UInt8) (hs : s.length ≤ 400) : rk Tryz.prog pol (Task.call 150 [V.d (D.s s)] []) = some (.t [.d (.i .u64 ((parseB s).1 : Nat)), .d (.i .i64 (parseB s).2)], []) := by
 rw [rparse_ref s hs, refB_eq]; rfl
section
variable (s : List UInt8) (hs : s.length ≤ 400) (a x : Nat) (hax : a ≤ x) (hx : x ≤ s.length) (w : Int)
include hs hax hx
set_option linter.unusedSectionVars false in
theorem cut_x : List.take (((x : Int)).toNat - ((a : Nat) : Int).toNat) (List.drop ((a : Nat) : Int).toNat s) = (s.drop a).take (x - a) := by
 rw [Int.toNat_natCast, Int.toNat_natCast]
theorem hp_x : rk Tryz.prog pol (Task.call 150 [V.d (D.s ((s.drop a).take (x - a)))] []) = some (.t [.d (.i .u64 ((parseB ((s.drop a).take (x - a))).1 : Nat)), .d (.i .i64 (parseB ((s.drop a).take (x - a))).2)], []) :=
 doc_parse _ (by rw [List.length_take, List.length_drop]; omega)
theorem num_895dbl : rk Tryz.prog pol (n895 a false false (docO s (x : Int) 0 w)) = dblO s a x w := by
 have hc := cut_x s hs a x hax hx
 have hp := hp_x s hs a x hax hx
 have hf := num_4095 s x hx w (parseB ((s.drop a).take (x - a))).2 3 0 (parseB ((s.drop a).take (x - a))).1 a
 unfold dblO
 rw [← hf]
 unfold n895 tk0 docO
 rw [e99_at895, st_F, st_F, cs_0, cs_1, st_if (by omega), st_if (by omega), hc, st_II hp, interp_call_ret]
 rfl
theorem num_7551dbl (sg : Bool) : rk Tryz.prog pol (n7551 a false sg false (docO s (x : Int) 0 w)) = dblO s a x w := by
 have hc := cut_x s hs a x hax hx
 have hp := hp_x s hs a x hax hx
 have hf := num_4095 s x hx w (parseB ((s.drop a).take (x - a))).2 3 0 (parseB ((s.drop a).take (x - a))).1 a
 unfold dblO
 rw [← hf]
 unfold n7551 tk0 docO
 rw [e99_at7551, st_F, st_F, cs_0, cs_1, st_if (by omega), st_if (by omega), hc, st_II hp, interp_call_ret]
 rfl
theorem num_895whole {n er : Int} (h : rk Tryz.prog pol (Task.call 149 [V.d (D.s ((s.drop a).take (x - a)))] []) = some (.t [.d (.i .i64 n), .d (.i .i64 er)], [])) :
  rk Tryz.prog pol (n895 a true false (docO s (x : Int) 0 w)) = some (.d (Tok.D ⟨2, [], n, 0, a⟩), [behO s x er w a]) := by
 have hc := cut_x s hs a x hax hx
 have hf := num_4095 s x hx w er 2 n 0 a
 rw [← hf]
 unfold n895 tk0 docO
 rw [e99_at895, st_F, st_T, cs_0, cs_1, st_if (by omega), st_if (by omega), hc, st_II h, interp_call_ret]
 rfl
theorem num_7551whole (sg : Bool) {n er : Int} (h : rk Tryz.prog pol (Task.call 149 [V.d (D.s ((s.drop a).take (x - a)))] []) = some (.t [.d (.i .i64 n), .d (.i .i64 er)], [])) :
  rk Tryz.prog pol (n7551 a true sg false (docO s (x : Int) 0 w)) = some (.d (Tok.D ⟨2, [], n, 0, a⟩), [behO s x er w a]) := by
 have hc := cut_x s hs a x hax hx
 have hf := num_4095 s x hx w er 2 n 0 a
 rw [← hf]
 unfold n7551 tk0 docO
 rw [e99_at7551, st_F, st_T, cs_0, cs_1, st_if (by omega), st_if (by omega), hc, st_II h, interp_call_ret]
 rfl
end
theorem num_7551t (s : List UInt8) (hs : s.length ≤ 400) (a x k : Nat) (hk : k = 1 ∨ k = 2) (hax : a ≤ x) (hx : x + k ≤ s.length) (w : Int) (wh : Bool) :
  rk Tryz.prog pol (n7551 a wh (decide (k = 2)) true (docO s (x : Int) 0 w)) = dblO s a (x + k + ((s.drop (x + k)).takeWhile isDig).length) w := by
 have hle := tw_len (s.drop (x + k)) isDig
 rw [List.length_drop] at hle
 have hdg := ddigits_s s (by omega) (x + k) hx 0 w
 have hc := cut_x s hs a (x + k + ((s.drop (x + k)).takeWhile isDig).length) (by omega) (by omega)
 have hp := hp_x s hs a (x + k + ((s.drop (x + k)).takeWhile isDig).length) (by omega) (by omega)
 have hf := num_4095 s (x + k + ((s.drop (x + k)).takeWhile isDig).length) (by omega) w (parseB ((s.drop a).take (x + k + ((s.drop (x + k)).takeWhile isDig).length - a))).2 3 0 (parseB ((s.drop a).take (x + k + ((s.drop (x + k)).takeWhile isDig).length - a))).1 a
 have w1 : IntKind.i64.wrap ((x : Int) + 1) = ((x + 1 : Nat) : Int) := by rw [wrap_i64] <;> omega
 unfold dblO
 rw [← hf]
 rcases hk with rfl | rfl
 ·rw [show decide ((1 : Nat) = 2) = false from rfl]
  unfold n7551 tk0
  unfold docO at *
  rw [e99_at7551, st_T, cs_1, st_if' (by rfl), w1, st_F, set4_1, so_B hdg (by rfl) (by rfl), cs_0, cs_1, st_if (by omega), st_if (by omega), hc, st_II hp, interp_call_ret]
  rfl
 ·have w2 : IntKind.i64.wrap (((x + 1 : Nat) : Int) + 1) = ((x + 2 : Nat) : Int) := by rw [wrap_i64] <;> omega
  rw [show decide ((2 : Nat) = 2) = true from rfl]
  unfold n7551 tk0
  unfold docO at *
  rw [e99_at7551, st_T, cs_1, st_if' (by rfl), w1, st_T, set4_1, cs_1, st_if' (by rfl), w2, set4_1, so_B hdg (by rfl) (by rfl), cs_0, cs_1, st_if (by omega), st_if (by omega), hc, st_II hp, interp_call_ret]
  rfl
theorem num_895t (s : List UInt8) (hs : s.length ≤ 400) (a x : Nat) (hax : a ≤ x) (c : UInt8) (hd : s.drop x = c :: s.drop (x + 1)) (hc : c = 101 ∨ c = 69) (hx : x < s.length) (w : Int) (wh : Bool) :
  rk Tryz.prog pol (n895 a wh true (docO s (x : Int) 0 w)) =
   if expN (s.drop x) ≠ 0 then dblO s a (x + expN (s.drop x)) w else rk Tryz.prog pol (n7551 a wh (decide (expK (s.drop (x + 1)) = 2)) false (docO s (x : Int) 0 w)) := by
 have w1 : IntKind.i64.wrap ((x : Int) + 1) = ((x + 1 : Nat) : Int) := by rw [wrap_i64] <;> omega
 have hh1 : rk Tryz.prog pol (Task.call 148 [V.p 0 0, V.d (D.i .i64 1)] [docO s (x : Int) 0 w]) = _ := dhas_s s (by omega) x 1 (by omega) (by omega) 0 w
 have hh2 : rk Tryz.prog pol (Task.call 148 [V.p 0 0, V.d (D.i .i64 2)] [docO s (x : Int) 0 w]) = _ := dhas_s s (by omega) x 2 (by omega) (by omega) 0 w
 have hgd1 := dig_at (s.drop x) 1
 have hgd2 := dig_at (s.drop x) 2
 have hE : expN (s.drop x) = if ((s.drop x).drop (expK (s.drop (x + 1)))).takeWhile isDig = [] then 0 else expK (s.drop (x + 1)) + (((s.drop x).drop (expK (s.drop (x + 1)))).takeWhile isDig).length := by
  rw [hd, expN_cons, if_pos hc]
 -- is there a sign?
 have hsg : rk Tryz.prog pol (n895 a wh true (docO s (x : Int) 0 w)) = rk Tryz.prog pol (n3455 a wh (decide (expK (s.drop (x + 1)) = 2)) (docO s (x : Int) 0 w)) := by
  rcases Nat.lt_or_ge (x + 1) s.length with hlt | hge
  ·obtain ⟨d, hd2, hg2⟩ := drop_at hlt
   have e43 : ((d.toNat : Int) == 43) = (d == 43) := u8_eqb d 43
   have e45 : ((d.toNat : Int) == 45) = (d == 45) := u8_eqb d 45
   rw [hd2, expK_cons]
   unfold n895 n3455 tk0 docO
   rw [e99_at895, st_T, cs_1, cs_0, w1, st_t (by omega), cs_0, cs_1, w1, st_ob hg2, e43]
   by_cases h43 : d = 43
   ·rw [st_bt (beq_iff_eq.2 h43), interp_call_ret, if_pos (Or.inl h43)]; rfl
   ·rw [st_bf (beq_eq_false_iff_ne.2 h43), cs_0, cs_1, w1, st_ob hg2, interp_call_ret, e45]
    by_cases h45 : d = 45
    ·rw [if_pos (Or.inr h45), beq_iff_eq.2 h45]; rfl
    ·rw [if_neg (by rintro (h | h); exact h43 h; exact h45 h), beq_eq_false_iff_ne.2 h45]; rfl
  ·rw [List.drop_eq_nil_of_le hge]
   unfold n895 n3455 tk0 docO
   rw [e99_at895, st_T, cs_1, cs_0, w1, st_f (by omega), interp_call_ret]
   rfl
 rw [hsg, hE]
 have hK : expK (s.drop (x + 1)) = 1 ∨ expK (s.drop (x + 1)) = 2 := by
  unfold expK
  split
  ·split
   ·exact Or.inr rfl
   ·exact Or.inl rfl
  ·exact Or.inl rfl
 have h7f : ∀ sg : Bool, rk Tryz.prog pol (n7551 a wh sg true (docO s (x : Int) 0 w)) = rk Tryz.prog pol (n7551 a wh sg true (docO s (x : Int) 0 w)) := fun _ => rfl
 rcases hK with hK | hK
 ·rw [hK, show decide ((1 : Nat) = 2) = false from rfl]
  cases hdg : isDig ((s.drop x).getD 1 0) with
  | true =>
   have hne := hgd1.1 hdg
   have hlen : x + 1 ≤ s.length := by omega
   have h7 := num_7551t s hs a x 1 (Or.inl rfl) hax hlen w wh
   rw [if_neg hne, if_pos (by omega), ← Nat.add_assoc, List.drop_drop, ← h7, show decide ((1 : Nat) = 2) = false from rfl]
   rw [hdg] at hh1
   unfold n3455 n7551 tk0
   unfold docO at *
   rw [e99_at3455, so_B hh1 (by rfl) (by rfl), st_T, interp_call_ret]
  | false =>
   have hnil : ((s.drop x).drop 1).takeWhile isDig = [] := by
    rcases Classical.em (((s.drop x).drop 1).takeWhile isDig = []) with h | h
    ·exact h
    ·have := hgd1.2 h; rw [hdg] at this; cases this
   rw [if_pos hnil, if_neg (by omega)]
   rw [hdg] at hh1
   unfold n3455 n7551 tk0
   unfold docO at *
   rw [e99_at3455, so_B hh1 (by rfl) (by rfl), st_F, st_F, interp_call_ret]
 ·-- a sign: the byte behind the letter is no digit
  have hno : isDig ((s.drop x).getD 1 0) = false := by
   rw [hd, List.getD_cons_succ]
   cases hq : s.drop (x + 1) with
   | nil => rfl
   | cons d q =>
    rw [hq] at hK
    rw [expK_cons] at hK
    split at hK
    ·rename_i h
     show isDig d = false
     rcases h with rfl | rfl <;> rfl
    ·omega
  rw [hno] at hh1
  rw [hK, show decide ((2 : Nat) = 2) = true from rfl]
  cases hdg : isDig ((s.drop x).getD 2 0) with
  | true =>
   have hne := hgd2.1 hdg
   have hlen : x + 2 ≤ s.length := by
    rcases Nat.lt_or_ge s.length (x + 2) with h | h
    ·rw [List.drop_drop, List.drop_eq_nil_of_le (by omega)] at hne; exact absurd rfl hne
    ·exact h
   have h7 := num_7551t s hs a x 2 (Or.inr rfl) hax hlen w wh
   rw [if_neg hne, if_pos (by omega), ← Nat.add_assoc, List.drop_drop, ← h7, show decide ((2 : Nat) = 2) = true from rfl]
   rw [hdg] at hh2
   unfold n3455 n7551 tk0
   unfold docO at *
   rw [e99_at3455, so_B hh1 (by rfl) (by rfl), st_F, st_T, so_B hh2 (by rfl) (by rfl), interp_call_ret]
  | false =>
   have hnil : ((s.drop x).drop 2).takeWhile isDig = [] := by
    rcases Classical.em (((s.drop x).drop 2).takeWhile isDig = []) with h | h
    ·exact h
    ·have := hgd2.2 h; rw [hdg] at this; cases this
   rw [if_pos hnil, if_neg (by omega)]
   rw [hdg] at hh2
   unfold n3455 n7551 tk0
   unfold docO at *
   rw [e99_at3455, so_B hh1 (by rfl) (by rfl), st_F, st_T, so_B hh2 (by rfl) (by rfl), interp_call_ret]
def expO (s : List UInt8) (a x : Nat) (w : Int) (wh : Bool) (n er : Int) : Option Out :=
 if expN (s.drop x) ≠ 0 then dblO s a (x + expN (s.drop x)) w else if wh = true then some (.d (Tok.D ⟨2, [], n, 0, a⟩), [behO s x er w a]) else dblO s a x w
theorem num_exp (s : List UInt8) (hs : s.length ≤ 400) (a x : Nat) (hax : a ≤ x) (hx : x ≤ s.length) (w : Int) (wh : Bool) (n er : Int)
  (h10 : wh = true → rk Tryz.prog pol (Task.call 149 [V.d (D.s ((s.drop a).take (x - a)))] []) = some (.t [.d (.i .i64 n), .d (.i .i64 er)], [])) (b : Bool)
  (hb : b = ((s.drop x).getD 0 0 == 101 || (s.drop x).getD 0 0 == 69)) :
  rk Tryz.prog pol (n895 a wh b (docO s (x : Int) 0 w)) = expO s a x w wh n er := by
 unfold expO
 cases b with
 | true =>
  rcases Nat.lt_or_ge x s.length with hlt | hge
  ·obtain ⟨c, hd, hg⟩ := drop_at hlt
   rw [hd, List.getD_cons_zero] at hb
   have hc : c = 101 ∨ c = 69 := by simpa using hb.symm
   rw [num_895t s hs a x hax c hd hc hlt w wh]
   by_cases h : expN (s.drop x) ≠ 0
   ·rw [if_pos h, if_pos h]
   ·rw [if_neg h, if_neg h]
    cases wh with
    | true => rw [if_pos rfl]; exact num_7551whole s hs a x hax hx w _ (h10 rfl)
    | false => rw [if_neg (by decide)]; exact num_7551dbl s hs a x hax hx w _
  ·rw [List.drop_eq_nil_of_le hge] at hb; exact absurd hb (by decide)
 | false =>
  have h0 : expN (s.drop x) = 0 := by
   cases hq : s.drop x with
   | nil => rfl
   | cons c q =>
    rw [hq, List.getD_cons_zero] at hb
    have hc : ¬ (c = 101 ∨ c = 69) := by
     rintro (rfl | rfl) <;> exact absurd hb (by decide)
    rw [expN_cons, if_neg hc]
  rw [if_neg (by omega)]
  cases wh with
  | true => rw [if_pos rfl]; exact num_895whole s hs a x hax hx w (h10 rfl)
  | false => rw [if_neg (by decide)]; exact num_895dbl s hs a x hax hx w
end Go.Dn.Dec
namespace Go.Dn.Dec
open Go.Proofs
theorem num_447f (s : List UInt8) (a x : Nat) (hx : x ≤ s.length) (w : Int) (wh : Bool) :
  rk Tryz.prog pol (n447 a wh false (docO s (x : Int) 0 w)) = rk Tryz.prog pol (n895 a wh ((s.drop x).getD 0 0 == 101 || (s.drop x).getD 0 0 == 69) (docO s (x : Int) 0 w)) := by
 rcases Nat.lt_or_ge x s.length with hlt | hge
 ·obtain ⟨c, hd, hg⟩ := drop_at hlt
  have e101 : ((c.toNat : Int) == 101) = (c == 101) := u8_eqb c 101
  have e69 : ((c.toNat : Int) == 69) = (c == 69) := u8_eqb c 69
  rw [hd, List.getD_cons_zero]
  unfold n447 n895 tk0 docO
  rw [e99_at447, st_F, cs_1, cs_0, st_t (by omega), cs_0, cs_1, st_ob hg, e101]
  cases h : (c == 101) with
  | true => rw [st_T, interp_call_ret]; rfl
  | false => rw [st_F, cs_0, cs_1, st_ob hg, interp_call_ret, e69]; rfl
 ·rw [List.drop_eq_nil_of_le hge]
  unfold n447 n895 tk0 docO
  rw [e99_at447, st_F, cs_1, cs_0, st_f (by omega), interp_call_ret]
  rfl
theorem num_447t (s : List UInt8) (hs : s.length ≤ 400) (a x : Nat) (hx : x + 1 ≤ s.length) (w : Int) (wh : Bool) (y : Nat) (hy : y = x + 1 + ((s.drop (x + 1)).takeWhile isDig).length) :
  rk Tryz.prog pol (n447 a wh true (docO s (x : Int) 0 w)) = rk Tryz.prog pol (n895 a false ((s.drop y).getD 0 0 == 101 || (s.drop y).getD 0 0 == 69) (docO s (y : Int) 0 w)) := by
 have hle := tw_len (s.drop (x + 1)) isDig
 rw [List.length_drop] at hle
 have w1 : IntKind.i64.wrap ((x : Int) + 1) = ((x + 1 : Nat) : Int) := by rw [wrap_i64] <;> omega
 have hdg := ddigits_s s (by omega) (x + 1) hx 0 w
 rw [← hy] at hdg
 rcases Nat.lt_or_ge y s.length with hlt | hge
 ·obtain ⟨c, hd, hg⟩ := drop_at hlt
  have e101 : ((c.toNat : Int) == 101) = (c == 101) := u8_eqb c 101
  have e69 : ((c.toNat : Int) == 69) = (c == 69) := u8_eqb c 69
  rw [hd, List.getD_cons_zero]
  unfold n447 n895 tk0
  unfold docO at *
  rw [e99_at447, st_T, cs_1, st_if' (by rfl), w1, set4_1, so_B hdg (by rfl) (by rfl), cs_1, cs_0, st_t (by omega), cs_0, cs_1, st_ob hg, e101]
  cases h : (c == 101) with
  | true => rw [st_T, interp_call_ret]; rfl
  | false => rw [st_F, cs_0, cs_1, st_ob hg, interp_call_ret, e69]; rfl
 ·rw [List.drop_eq_nil_of_le hge]
  unfold n447 n895 tk0
  unfold docO at *
  rw [e99_at447, st_T, cs_1, st_if' (by rfl), w1, set4_1, so_B hdg (by rfl) (by rfl), cs_1, cs_0, st_f (by omega), interp_call_ret]
  rfl
theorem num_55 (s : List UInt8) (hs : s.length ≤ 400) (a sg : Nat) (hsg : sg = 0 ∨ sg = 1) (ha : a + sg ≤ s.length) (w : Int) (x : Nat) (hxx : x = a + sg + ((s.drop (a + sg)).takeWhile isDig).length) :
  rk Tryz.prog pol (Task.at_ 99 1 [true, false, true, true, true] (sv 242 (nv a [(62, V.d (D.b (decide (sg = 1))))])) [] [tk0, docO s (a : Int) 0 w]) =
   rk Tryz.prog pol (n447 a true (decide (fracN (s.drop x) ≠ 0)) (docO s (x : Int) 0 w)) := by
 have hle := tw_len (s.drop (a + sg)) isDig
 rw [List.length_drop] at hle
 have hdg := ddigits_s s (by omega) (a + sg) ha 0 w
 rw [← hxx] at hdg
 have hx : x ≤ s.length := by omega
 have hh : rk Tryz.prog pol (Task.call 148 [V.p 0 0, V.d (D.i .i64 1)] [docO s (x : Int) 0 w]) = _ := dhas_s s (by omega) x 1 hx (by omega) 0 w
 have hF : decide (fracN (s.drop x) ≠ 0) = ((s.drop x).getD 0 0 == 46 && isDig ((s.drop x).getD 1 0)) := by
  rw [frac_eq]
  by_cases h46 : (s.drop x).getD 0 0 = 46
  ·cases h : isDig ((s.drop x).getD 1 0) with
   | true => rw [if_pos ⟨h46, rfl⟩, decide_eq_true (by omega), beq_iff_eq.2 h46]; rfl
   | false => rw [if_neg (by rintro ⟨-, h⟩; cases h), Bool.and_false]; rfl
  ·rw [if_neg (fun h => h46 h.1), beq_eq_false_iff_ne.2 h46]; rfl
 have w1 : IntKind.i64.wrap ((a : Int) + 1) = ((a + 1 : Nat) : Int) := by rw [wrap_i64] <;> omega
 rw [hF]
 rcases hsg with rfl | rfl
 ·rw [show decide ((0 : Nat) = 1) = false from rfl]
  rw [Nat.add_zero] at hdg
  rcases Nat.lt_or_ge x s.length with hlt | hge
  ·obtain ⟨c, hd, hg⟩ := drop_at hlt
   have e46 : ((c.toNat : Int) == 46) = (c == 46) := u8_eqb c 46
   rw [hd, List.getD_cons_zero, ← hd]
   unfold n447 tk0
   unfold docO at *
   rw [e99_at55, st_F, so_B hdg (by rfl) (by rfl), cs_1, cs_0, st_t (by omega), cs_0, cs_1, st_ob hg, e46]
   cases h : (c == 46) with
   | true => rw [st_T, so_B hh (by rfl) (by rfl), interp_call_ret]; rfl
   | false => rw [st_F, interp_call_ret]; rfl
  ·rw [List.drop_eq_nil_of_le hge]
   unfold n447 tk0
   unfold docO at *
   rw [e99_at55, st_F, so_B hdg (by rfl) (by rfl), cs_1, cs_0, st_f (by omega), interp_call_ret]
   rfl
 ·rw [show decide ((1 : Nat) = 1) = true from rfl]
  rcases Nat.lt_or_ge x s.length with hlt | hge
  ·obtain ⟨c, hd, hg⟩ := drop_at hlt
   have e46 : ((c.toNat : Int) == 46) = (c == 46) := u8_eqb c 46
   rw [hd, List.getD_cons_zero, ← hd]
   unfold n447 tk0
   unfold docO at *
   rw [e99_at55, st_T, w1, so_B hdg (by rfl) (by rfl), cs_1, cs_0, st_t (by omega), cs_0, cs_1, st_ob hg, e46]
   cases h : (c == 46) with
   | true => rw [st_T, so_B hh (by rfl) (by rfl), interp_call_ret]; rfl
   | false => rw [st_F, interp_call_ret]; rfl
  ·rw [List.drop_eq_nil_of_le hge]
   unfold n447 tk0
   unfold docO at *
   rw [e99_at55, st_T, w1, so_B hdg (by rfl) (by rfl), cs_1, cs_0, st_f (by omega), interp_call_ret]
   rfl
theorem num_T (s : List UInt8) (hs : s.length ≤ 400) (a sg : Nat) (hsg : sg = 0 ∨ sg = 1) (hsgl : (s.drop a).take sg = [] ∨ (s.drop a).take sg = [43] ∨ (s.drop a).take sg = [45]) (ha : a + sg ≤ s.length)
  (hnd : ¬ ((s.drop (a + sg)).takeWhile isDig = [] ∧ fracN (s.drop (a + sg)) = 0)) (w : Int) :
  WroteD s a w (numT (s.drop a) sg a) (rk Tryz.prog pol (Task.at_ 99 1 [true, false, true, true, true] (sv 242 (nv a [(62, V.d (D.b (decide (sg = 1))))])) [] [tk0, docO s (a : Int) 0 w])) := by
 have hle := tw_len (s.drop (a + sg)) isDig
 rw [List.length_drop] at hle
 have hself := take_self (s.drop (a + sg)) isDig
 have hall := take_all isDig (s.drop (a + sg))
 rw [num_55 s hs a sg hsg ha w _ rfl]
 unfold numT
 simp only
 rw [List.drop_drop, if_neg hnd]
 generalize hds : (s.drop (a + sg)).takeWhile isDig = ds at *
 have hd1 : (s.drop (a + sg)).drop ds.length = s.drop (a + sg + ds.length) := by rw [List.drop_drop]
 have hd2 : (s.drop (a + sg)).drop (ds.length + fracN (s.drop (a + sg + ds.length))) = s.drop (a + sg + ds.length + fracN (s.drop (a + sg + ds.length))) := by rw [List.drop_drop]; congr 1; omega
 rw [hd1, hd2]
 have hfl := fracN_le (s.drop (a + sg + ds.length))
 rw [List.length_drop] at hfl
 have hel := expN_le (s.drop (a + sg + ds.length + fracN (s.drop (a + sg + ds.length))))
 rw [List.length_drop] at hel
 generalize hfa : fracN (s.drop (a + sg + ds.length)) = fa at *
 -- the double's end
 have dbl : ∀ y : Nat, y = a + (sg + (ds.length + (fa + expN (s.drop (a + sg + ds.length + fa))))) → WroteD s a w
   (if (parseB ((s.drop a).take (sg + (ds.length + (fa + expN (s.drop (a + sg + ds.length + fa))))))).2 ≠ 0 then .inr ((parseB ((s.drop a).take (sg + (ds.length + (fa + expN (s.drop (a + sg + ds.length + fa))))))).2, a)
    else behW (s.drop a) (sg + (ds.length + (fa + expN (s.drop (a + sg + ds.length + fa))))) a ⟨3, [], 0, (parseB ((s.drop a).take (sg + (ds.length + (fa + expN (s.drop (a + sg + ds.length + fa))))))).1, a⟩)
   (dblO s a y w) := by
  intro y hy
  unfold dblO
  rw [hy, Nat.add_sub_cancel_left]
  generalize sg + (ds.length + (fa + expN (s.drop (a + sg + ds.length + fa)))) = n
  generalize parseB ((s.drop a).take n) = p
  by_cases hp : p.2 ≠ 0
  ·rw [if_pos hp]; exact wroteD_err s a _ p.2 w hp _
  ·rw [if_neg hp, show p.2 = 0 by omega]; exact wroteD_end s a n w _
 by_cases h0 : fa = 0
 ·-- no fraction
  subst h0
  rw [Nat.add_zero] at *
  rw [show decide ((0 : Nat) ≠ 0) = false from rfl, num_447f s a _ (by omega) w true]
  have hds0 : ds ≠ [] := by
   intro e
   apply hnd
   refine ⟨e, ?_⟩
   rw [e] at hfa
   exact hfa
  have htk : (s.drop a).take (sg + ds.length) = (s.drop a).take sg ++ ds := by rw [List.take_add, List.drop_drop, ← hself]
  have hpos : 0 < ds.length := List.length_pos_iff.2 hds0
  have hne : (s.drop a).take sg ++ ds ≠ [] := by simp [hds0]
  have hh : ((s.drop a).take sg ++ ds).head? = (s.drop a).head? := by
   rw [← htk, List.head?_take, if_neg (by omega)]
  have h10 := dten_s ((s.drop a).take sg) ds hsgl (fun c h => List.all_eq_true.1 hall c h) hne (by rw [← htk, List.length_take, List.length_drop]; omega)
  rw [hh, ← htk] at h10
  have hsub : a + sg + ds.length - a = sg + ds.length := by omega
  generalize hv : wholeB ((s.drop a).head? == some 45) (numB ds) = v at *
  have key : ∀ (n er : Int), rk Tryz.prog pol (Task.call 149 [V.d (D.s ((s.drop a).take (sg + ds.length)))] []) = some (.t [.d (.i .i64 n), .d (.i .i64 er)], []) →
    rk Tryz.prog pol (n895 a true ((s.drop (a + sg + ds.length)).getD 0 0 == 101 || (s.drop (a + sg + ds.length)).getD 0 0 == 69) (docO s ((a + sg + ds.length : Nat) : Int) 0 w)) = expO s a (a + sg + ds.length) w true n er := by
   intro n er h
   exact num_exp s hs a (a + sg + ds.length) (by omega) (by omega) w true n er (fun _ => by rw [hsub]; exact h) _ rfl
  by_cases hfb : expN (s.drop (a + sg + ds.length)) = 0
  ·rw [if_pos ⟨rfl, hfb⟩]
   rw [hfb, Nat.add_zero]
   by_cases h60 : 60 < ds.length
   ·rw [if_pos h60] at h10
    rw [if_pos h60, key 0 4 h10]
    unfold expO
    rw [hfb, if_neg (by decide), if_pos rfl]
    exact wroteD_err s a _ 4 w (by decide) _
   ·rw [if_neg h60] at h10
    rw [if_neg h60]
    unfold tenR at h10
    cases hv2 : v.2 with
    | false =>
     rw [hv2, if_neg (by decide)] at h10
     rw [if_pos rfl, key 0 5 h10]
     unfold expO
     rw [hfb, if_neg (by decide), if_pos rfl]
     exact wroteD_err s a _ 5 w (by decide) _
    | true =>
     rw [hv2, if_pos rfl] at h10
     rw [if_neg (by decide), key v.1 0 h10]
     unfold expO
     rw [hfb, if_neg (by decide), if_pos rfl, Nat.add_assoc]
     exact wroteD_end s a (sg + ds.length) w _
  ·rw [if_neg (fun h => hfb h.2)]
   have hko : ∃ n er, rk Tryz.prog pol (Task.call 149 [V.d (D.s ((s.drop a).take (sg + ds.length)))] []) = some (.t [.d (.i .i64 n), .d (.i .i64 er)], []) := by
    rw [h10]
    by_cases h60 : 60 < ds.length
    ·rw [if_pos h60]; exact ⟨_, _, rfl⟩
    ·rw [if_neg h60]
     unfold tenR
     split
     ·exact ⟨_, _, rfl⟩
     ·exact ⟨_, _, rfl⟩
   obtain ⟨n, er, h⟩ := hko
   rw [key n er h]
   unfold expO
   rw [if_pos hfb]
   exact dbl _ (by omega)
 ·rw [if_neg (fun h => h0 h.1), decide_eq_true h0]
  have hfe := frac_eq (s.drop (a + sg + ds.length))
  rw [hfa] at hfe
  have hcond : (s.drop (a + sg + ds.length)).getD 0 0 = 46 ∧ isDig ((s.drop (a + sg + ds.length)).getD 1 0) = true := by
   rcases Classical.em ((s.drop (a + sg + ds.length)).getD 0 0 = 46 ∧ isDig ((s.drop (a + sg + ds.length)).getD 1 0) = true) with h | h
   ·exact h
   ·rw [if_neg h] at hfe; exact absurd hfe h0
  rw [if_pos hcond, List.drop_drop] at hfe
  have hlt : a + sg + ds.length + 1 ≤ s.length := by
   rcases Nat.lt_or_ge (a + sg + ds.length) s.length with h | h
   ·omega
   ·rw [List.drop_eq_nil_of_le h] at hcond; exact absurd hcond.1 (by decide)
  rw [num_447t s hs a (a + sg + ds.length) hlt w true (a + sg + ds.length + fa) (by omega)]
  rw [num_exp s hs a (a + sg + ds.length + fa) (by omega) (by omega) w false 0 0 (fun h => by cases h) _ rfl]
  unfold expO
  by_cases hfb : expN (s.drop (a + sg + ds.length + fa)) ≠ 0
  ·rw [if_pos hfb]
   exact dbl _ (by omega)
  ·rw [if_neg hfb, if_neg (show ¬ (false = true) by decide)]
   exact dbl _ (by omega)
theorem passD {s : List UInt8} {a : Nat} {w : Int} {r : WdR} {o o' : Option Out} (hw : WroteD s a w r o)
  (H : ∀ (T : Tok) (x e w' : Int), o = some (.d T.D, [docO s x e w']) → o' = some (.d T.D, [docO s x e w'])) : WroteD s a w r o' := by
 match r, hw with
 | .inr (e, w'), ⟨he, x, T, h⟩ => exact ⟨he, x, T, H _ _ _ _ h⟩
 | .inl (t, n), h => exact H _ _ _ _ h
theorem dnum_w (s : List UInt8) (hs : s.length ≤ 400) (a : Nat) (c : UInt8) (hd : s.drop a = c :: s.drop (a + 1)) (hg : getI s (a : Int) = some c) (ha : a < s.length)
    (hnd : ndB (s.drop (a + signN (s.drop a))) = false) (w : Int) : WroteD s a w (numW (s.drop a) a) (rk Tryz.prog pol (Task.call 99 [V.p 0 0] [docO s (a : Int) 0 w])) := by
  have hnd' : ¬ ((s.drop (a + signN (s.drop a))).takeWhile isDig = [] ∧ fracN (s.drop (a + signN (s.drop a))) = 0) := fun h => by
    have := (nd_eq _).2 h; rw [hnd] at this; cases this
  have hst := starts_s s [48, 120] a (by omega) (by omega) (by decide)
  have hl : ([48, 120] : List UInt8).length = 2 := rfl
  rw [hl, hd, two_of] at hst
  have w2 : IntKind.i64.wrap ((a : Int) + 2) = ((a + 2 : Nat) : Int) := by rw [wrap_i64] <;> omega
  have e43 : ((c.toNat : Int) == 43) = (c == 43) := u8_eqb c 43
  have e45 : ((c.toNat : Int) == 45) = (c == 45) := u8_eqb c 45
  have hsN : signN (s.drop a) = if c = 43 ∨ c = 45 then 1 else 0 := by rw [hd]; rfl
  -- is it a number of sixteen?
  have h27 : ∀ b : Bool, rk Tryz.prog pol (Task.call 99 [V.p 0 0] [docO s (a : Int) 0 w]) =
        rk Tryz.prog pol (Task.at_ 99 1 [true, false, true, true] (sv 242 (nv a [(38, V.d (D.b b))])) [] [tk0, docO s (a : Int) 0 w]) →
      (b = true ↔ (signN (s.drop a) = 0 ∧ (s.drop a).head? = some 48 ∧ ((s.drop a).drop 1).head? = some 120 ∧ (((s.drop a).drop 2).takeWhile hexB) ≠ [])) →
      WroteD s a w (numW (s.drop a) a) (rk Tryz.prog pol (Task.call 99 [V.p 0 0] [docO s (a : Int) 0 w])) := by
    intro b hgo hb
    rw [hgo, numW_eq]
    cases b with
    | true =>
      have h := hb.1 rfl
      rw [if_pos h]
      have hlen : a + 2 ≤ s.length := by
        have h3 := h.2.2.2
        rcases Nat.lt_or_ge s.length (a + 2) with h | h
        · rw [List.drop_drop, List.drop_eq_nil_of_le (by omega)] at h3; exact absurd rfl h3
        · exact h
      refine passD (dsixteen_w s (by omega) a hlen w) ?_
      intro T x e w' h
      unfold Tok.D tk0 at *
      unfold docO at *
      rw [e99_at27, st_T, so_G h (by rfl) (by rfl) (by rfl), interp_ret]
      rfl
    | false =>
      rw [if_neg (fun h => by have := hb.2 h; cases this)]
      have hto : rk Tryz.prog pol (Task.at_ 99 1 [true, false, true, true] (sv 242 (nv a [(38, V.d (D.b false))])) [] [tk0, docO s (a : Int) 0 w]) =
          rk Tryz.prog pol (Task.at_ 99 1 [true, false, true, true, true] (sv 242 (nv a [(62, V.d (D.b (decide (signN (s.drop a) = 1))))])) [] [tk0, docO s (a : Int) 0 w]) := by
        rw [hsN]
        unfold tk0 docO
        rw [e99_at27, st_F, st_ob hg, e43]
        by_cases h43 : c = 43
        · rw [st_bt (beq_iff_eq.2 h43), interp_call_ret, if_pos (Or.inl h43)]; rfl
        · rw [st_bf (beq_eq_false_iff_ne.2 h43), st_ob hg, interp_call_ret, e45]
          by_cases h45 : c = 45
          · rw [if_pos (Or.inr h45), beq_iff_eq.2 h45]; rfl
          · rw [if_neg (by rintro (h | h); exact h43 h; exact h45 h), beq_eq_false_iff_ne.2 h45]; rfl
      rw [hto]
      have hsle := signN_le (s.drop a)
      rw [List.length_drop] at hsle
      refine num_T s hs a (signN (s.drop a)) ?_ ?_ (by omega) hnd' w
      · rw [hsN]; split
        · exact Or.inr rfl
        · exact Or.inl rfl
      · rw [hsN, hd]
        by_cases h : c = 43 ∨ c = 45
        · rw [if_pos h]
          rcases h with rfl | rfl
          · exact Or.inr (Or.inl rfl)
          · exact Or.inr (Or.inr rfl)
        · rw [if_neg h]; exact Or.inl rfl
  have hd1 : (s.drop a).drop 1 = s.drop (a + 1) := by rw [List.drop_drop]
  have hd2 : (s.drop a).drop 2 = s.drop (a + 2) := by rw [List.drop_drop]
  rw [hd1, hd2] at h27
  by_cases h0x : c = 48 ∧ (s.drop (a + 1)).head? = some 120
  · rw [decide_eq_true h0x] at hst
    have hs0 : signN (s.drop a) = 0 := by rw [hsN, if_neg (by rw [h0x.1]; decide)]
    have hh0 : (s.drop a).head? = some 48 := by rw [hd, h0x.1]; rfl
    rcases Nat.lt_or_ge (a + 2) s.length with hlt | hge
    · obtain ⟨d, hdd, hgd⟩ := drop_at hlt
      have hx := dhex_s d
      refine h27 (hexB d) ?_ ?_
      · unfold tk0 docO
        rw [e99, st_B hst, st_T, w2, st_t (by omega), st_ob hgd, st_I hx, interp_call_ret]
        cases hexB d with
        | true => rw [if_pos rfl, decide_eq_true (Int.natCast_nonneg _)]
        | false => rw [if_neg (by decide)]; rfl
      · rw [hdd, List.takeWhile_cons]
        cases hexB d with
        | true => simp [hs0, hh0, h0x.2]
        | false => simp
    · refine h27 false ?_ ?_
      · unfold tk0 docO
        rw [e99, st_B hst, st_T, w2, st_f (by omega), interp_call_ret]
      · rw [List.drop_eq_nil_of_le hge]; simp
  · rw [decide_eq_false h0x] at hst
    refine h27 false ?_ ?_
    · unfold tk0 docO
      rw [e99, st_B hst, st_F, interp_call_ret]
    · constructor
      · intro h; cases h
      · rintro ⟨-, h1, h2, -⟩
        rw [hd] at h1
        exact absurd ⟨Option.some.inj h1, h2⟩ h0x
end Go.Dn.Dec
namespace Go.Dn.Dec
open Go.Proofs
theorem textW_eq (q : UInt8) (r : List UInt8) (a : Nat) : textW q r a = if r.dropWhile (· != q) = [] ∨ (r.takeWhile (· != q)).contains 10 = true then .inr (2, a) else .inl (⟨4, r.takeWhile (· != q), 0, 0, a⟩, (r.takeWhile (· != q)).length + 2) := rfl
def txtP (c d : UInt8) : Bool := d != c && d != 10
theorem text_split (c : UInt8) (hc : c ≠ 10) : ∀ q : List UInt8,
  match q.dropWhile (txtP c) with
  | [] => q.dropWhile (· != c) = []
  | d :: _ => (d = 10 → (q.dropWhile (· != c) = [] ∨ (q.takeWhile (· != c)).contains 10 = true)) ∧
    (d ≠ 10 → q.takeWhile (· != c) = q.takeWhile (txtP c) ∧ q.dropWhile (· != c) ≠ [] ∧ (q.takeWhile (· != c)).contains 10 = false)
 | [] => rfl
 | x :: q => by
  have ih := text_split c hc q
  rw [List.dropWhile_cons, List.takeWhile_cons, List.dropWhile_cons, List.takeWhile_cons]
  by_cases hx : x = c
  ·subst hx
   have h1 : txtP x x = false := by unfold txtP; simp
   have h2 : (x != x) = false := by simp
   rw [h1, h2]
   simp only [Bool.false_eq_true, if_false]
   refine ⟨fun h => absurd h hc, fun _ => ?_⟩
   simp
  ·have h2 : (x != c) = true := bne_iff_ne.2 hx
   rw [h2]
   by_cases h10 : x = 10
   ·subst h10
    have h1 : txtP c 10 = false := by unfold txtP; simp
    rw [h1]
    simp only [Bool.false_eq_true, if_false, if_true]
    exact ⟨fun _ => Or.inr (by simp), fun h => absurd rfl h⟩
   ·have h1 : txtP c x = true := by unfold txtP; rw [h2, bne_iff_ne.2 h10]; rfl
    rw [h1]
    simp only [if_true]
    cases hq : q.dropWhile (txtP c) with
    | nil => rw [hq] at ih; exact ih
    | cons d q' =>
     rw [hq] at ih
     simp only at ih ⊢
     refine ⟨fun h => ?_, fun h => ?_⟩
     ·rcases ih.1 h with h' | h'
      ·exact Or.inl h'
      ·right; rw [List.contains_cons, h', Bool.or_true]
     ·obtain ⟨i1, i2, i3⟩ := ih.2 h
      refine ⟨by rw [i1], i2, ?_⟩
      rw [List.contains_cons, i3, Bool.or_false]
      exact beq_eq_false_iff_ne.2 (Ne.symm h10)
theorem text_loop_d (s : List UInt8) (hs : s.length ≤ 10000) (a : Nat) (c : UInt8) (w : Int) : ∀ (m k : Nat), k + m = s.length →
    rk Tryz.prog pol (Task.at_ 46 1 [false, false, true, false, true, true, true, true, true, true, true, false, false, true, true, true, true, true, true]
      (sv 194 (nv a [(4, V.d (D.i .u8 (c.toNat : Int))), (6, V.d (D.i .i64 (k : Int)))])) [] [tk0, docO s (a : Int) 0 w]) =
    rk Tryz.prog pol (Task.at_ 46 1 [true, false, false, false, false, true, false, true, true, true, true, true, true, true, false, false, true, true, true, true, true, true]
      (sv 194 (nv a [(4, V.d (D.i .u8 (c.toNat : Int))), (6, V.d (D.i .i64 ((k + ((s.drop k).takeWhile (txtP c)).length : Nat) : Int))), (152, V.d (D.b false))])) [] [tk0, docO s (a : Int) 0 w])
  | 0, k, h => by
    unfold tk0 docO
    rw [e46_at622399, st_f (by omega), interp_call_ret, List.drop_eq_nil_of_le (by omega)]
    rfl
  | m + 1, k, h => by
    obtain ⟨d, hd, hg⟩ := drop_at (show k < s.length by omega)
    have ih := text_loop_d s hs a c w m (k + 1) (by omega)
    have w1 : IntKind.i64.wrap ((k : Int) + 1) = ((k + 1 : Nat) : Int) := by rw [wrap_i64] <;> omega
    have ec : ((d.toNat : Int) != (c.toNat : Int)) = (d != c) := by rw [bne, bne, u8_eqb]
    have e10 : ((d.toNat : Int) != 10) = (d != 10) := by rw [bne, bne, show ((d.toNat : Int) == 10) = (d == 10) from u8_eqb d 10]
    have go : rk Tryz.prog pol (Task.at_ 46 1 [false, false, true, false, true, true, true, true, true, true, true, false, false, true, true, true, true, true, true]
          (sv 194 (nv a [(4, V.d (D.i .u8 (c.toNat : Int))), (6, V.d (D.i .i64 (k : Int)))])) [] [tk0, docO s (a : Int) 0 w]) =
        rk Tryz.prog pol (Task.at_ 46 1 [true, false, false, false, false, true, false, true, true, true, true, true, true, true, false, false, true, true, true, true, true, true]
          (sv 194 (nv a [(4, V.d (D.i .u8 (c.toNat : Int))), (6, V.d (D.i .i64 (k : Int))), (152, V.d (D.b (txtP c d)))])) [] [tk0, docO s (a : Int) 0 w]) := by
      unfold txtP tk0 docO
      rw [e46_at622399, st_t (by omega), st_ob hg, ec]
      cases hdc : (d != c) with
      | true => rw [st_T, st_ob hg, interp_call_ret, e10]; rfl
      | false => rw [st_F, interp_call_ret]; rfl
    rw [go, hd, List.takeWhile_cons]
    cases hp : txtP c d with
    | false => rw [if_neg (by decide)]; rfl
    | true =>
      rw [if_pos rfl, List.length_cons, show k + (((s.drop (k + 1)).takeWhile (txtP c)).length + 1) = k + 1 + ((s.drop (k + 1)).takeWhile (txtP c)).length by omega, ← ih]
      unfold tk0 docO
      rw [e46_at6389567, st_T, w1, interp_call_ret]
theorem text_d (s : List UInt8) (hs : s.length ≤ 10000) (a : Nat) (c : UInt8) (ha : a < s.length) (hc : c = 34 ∨ c = 39) (w : Int) :
  WroteD s a w (textW c (s.drop (a + 1)) a) (rk Tryz.prog pol (Task.at_ 46 1 [true, true, true, true, true, true, true, false, false, true, true, true, true, true, true]
   (sv 194 (nv a [(4, V.d (D.i .u8 (c.toNat : Int))), (118, V.d (D.b true))])) [] [tk0, docO s (a : Int) 0 w])) := by
 have hc10 : c ≠ 10 := by rcases hc with rfl | rfl <;> decide
 have w1 : IntKind.i64.wrap ((a : Int) + 1) = ((a + 1 : Nat) : Int) := by rw [wrap_i64] <;> omega
 have hL := text_loop_d s hs a c w (s.length - (a + 1)) (a + 1) (by omega)
 have hsp := text_split c hc10 (s.drop (a + 1))
 have hself := take_self (s.drop (a + 1)) (txtP c)
 have hle := tw_len (s.drop (a + 1)) (txtP c)
 have hdl : (s.drop (a + 1)).length = s.length - (a + 1) := List.length_drop ..
 have hsum : ((s.drop (a + 1)).takeWhile (txtP c)).length + ((s.drop (a + 1)).dropWhile (txtP c)).length = (s.drop (a + 1)).length := by
  have := congrArg List.length (List.takeWhile_append_dropWhile (p := txtP c) (l := s.drop (a + 1)))
  rwa [List.length_append] at this
 have hat : (s.drop (a + 1 + ((s.drop (a + 1)).takeWhile (txtP c)).length)) = (s.drop (a + 1)).dropWhile (txtP c) := by
  rw [← List.drop_drop]
  have h3 := List.takeWhile_append_dropWhile (p := txtP c) (l := s.drop (a + 1))
  calc (s.drop (a + 1)).drop ((s.drop (a + 1)).takeWhile (txtP c)).length
    = ((s.drop (a + 1)).takeWhile (txtP c) ++ (s.drop (a + 1)).dropWhile (txtP c)).drop ((s.drop (a + 1)).takeWhile (txtP c)).length := by rw [h3]
   _ = _ := by rw [List.drop_left]
 have go : rk Tryz.prog pol (Task.at_ 46 1 [true, true, true, true, true, true, true, false, false, true, true, true, true, true, true]
   (sv 194 (nv a [(4, V.d (D.i .u8 (c.toNat : Int))), (118, V.d (D.b true))])) [] [tk0, docO s (a : Int) 0 w]) =
   rk Tryz.prog pol (Task.at_ 46 1 [false, false, true, false, true, true, true, true, true, true, true, false, false, true, true, true, true, true, true]
   (sv 194 (nv a [(4, V.d (D.i .u8 (c.toNat : Int))), (6, V.d (D.i .i64 ((a + 1 : Nat) : Int)))])) [] [tk0, docO s (a : Int) 0 w]) := by
  unfold tk0 docO
  rw [e46_at65343, st_T, w1, interp_call_ret]
 have hf := dfail_s s (a : Int) 0 w 2 (a : Int)
 have bad : ∀ k : Int, WroteD s a w (.inr (2, a)) (rk Tryz.prog pol (Task.at_ 46 1 [true, false, true, true, false, true, true, true, true, true, true, true, false, false, true, true, true, true, true, true]
   (sv 194 (nv a [(6, V.d (D.i .i64 k)), (170, V.d (D.b true))])) [] [tk0, docO s (a : Int) 0 w])) := by
  intro k
  refine ⟨by decide, (a : Int), ⟨0, [], 0, 0, 0⟩, ?_⟩
  unfold tk0
  unfold docO at *
  rw [e46_at1802047, st_T, so_0 hf (by rfl) (by rfl), interp_ret]
  rfl
 rw [go, hL, textW_eq]
 generalize hu : (s.drop (a + 1)).takeWhile (txtP c) = u at *
 cases hdw : (s.drop (a + 1)).dropWhile (txtP c) with
 | nil =>
  rw [hdw] at hsp hsum
  rw [if_pos (Or.inl hsp)]
  have hend : a + 1 + u.length = s.length := by rw [List.length_nil] at hsum; omega
  have to1 : rk Tryz.prog pol (Task.at_ 46 1 [true, false, false, false, false, true, false, true, true, true, true, true, true, true, false, false, true, true, true, true, true, true]
    (sv 194 (nv a [(4, V.d (D.i .u8 (c.toNat : Int))), (6, V.d (D.i .i64 ((a + 1 + u.length : Nat) : Int))), (152, V.d (D.b false))])) [] [tk0, docO s (a : Int) 0 w]) =
    rk Tryz.prog pol (Task.at_ 46 1 [true, false, true, true, false, true, true, true, true, true, true, true, false, false, true, true, true, true, true, true]
    (sv 194 (nv a [(6, V.d (D.i .i64 ((a + 1 + u.length : Nat) : Int))), (170, V.d (D.b true))])) [] [tk0, docO s (a : Int) 0 w]) := by
   unfold tk0 docO
   rw [e46_at6389567, st_F, st_eq (by omega), interp_call_ret]
  rw [to1]
  exact bad _
 | cons d rest =>
  rw [hdw] at hsp hat
  rw [hdw, List.length_cons] at hsum
  simp only at hsp
  have hlt : a + 1 + u.length < s.length := by omega
  have hgd : getI s ((a + 1 + u.length : Nat) : Int) = some d := by rw [getI_nat, ← List.head?_drop, hat]; rfl
  have e10 : ((d.toNat : Int) == 10) = (d == 10) := u8_eqb d 10
  have to1 : rk Tryz.prog pol (Task.at_ 46 1 [true, false, false, false, false, true, false, true, true, true, true, true, true, true, false, false, true, true, true, true, true, true]
    (sv 194 (nv a [(4, V.d (D.i .u8 (c.toNat : Int))), (6, V.d (D.i .i64 ((a + 1 + u.length : Nat) : Int))), (152, V.d (D.b false))])) [] [tk0, docO s (a : Int) 0 w]) =
    rk Tryz.prog pol (Task.at_ 46 1 [true, false, true, true, false, true, true, true, true, true, true, true, false, false, true, true, true, true, true, true]
    (sv 194 (nv a [(6, V.d (D.i .i64 ((a + 1 + u.length : Nat) : Int))), (170, V.d (D.b (d == 10)))])) [] [tk0, docO s (a : Int) 0 w]) := by
   unfold tk0 docO
   rw [e46_at6389567, st_F, st_ne (by omega), st_ob hgd, interp_call_ret, e10]
  rw [to1]
  by_cases h10 : d = 10
  ·rw [if_pos (hsp.1 h10), beq_iff_eq.2 h10]
   exact bad _
  ·obtain ⟨i1, i2, i3⟩ := hsp.2 h10
   rw [if_neg (by rintro (h | h); exact i2 h; rw [i3] at h; cases h), i1, beq_eq_false_iff_ne.2 h10]
   have w3 : IntKind.i64.wrap (((a + 1 + u.length : Nat) : Int) + 1) = ((a + (u.length + 2) : Nat) : Int) := by rw [wrap_i64] <;> omega
   have htk : List.take ((((a + 1 + u.length : Nat) : Int)).toNat - (((a + 1 : Nat) : Int)).toNat) (List.drop (((a + 1 : Nat) : Int)).toNat s) = u := by
    rw [Int.toNat_natCast, Int.toNat_natCast, Nat.add_sub_cancel_left, ← hself]
   show _ = _
   unfold tk0 docO
   rw [e46_at1802047, st_F, w1, st_if (by omega), st_if (by omega), htk, w3, interp_ret]
   rfl
theorem sign_loop_d (s : List UInt8) (hs : s.length ≤ 10000) (a : Nat) (c : UInt8) (hd : s.drop a = c :: s.drop (a + 1)) (ha : a < s.length) (w : Int) : ∀ (m i : Nat), i + m = 13 →
  WroteD s a w (if (signsB.drop i).contains c = true then .inl (⟨5, [c], 0, 0, a⟩, 1) else .inr (2, a))
   (rk Tryz.prog pol (Task.at_ 46 1 [false, true, true, true, true, true, true, true, true, true, false, false, true, true, true, true, true, true] (sv 194 (nv a [(4, V.d (D.i .u8 (c.toNat : Int))), (7, V.d (D.i .i64 (i : Int)))])) [] [tk0, docO s (a : Int) 0 w]))
 | 0, i, h => by
  have hf := dfail_s s (a : Int) 0 w 2 (a : Int)
  have e : i = 13 := by omega
  subst e
  rw [if_neg (show ¬ ((signsB.drop 13).contains c = true) by simp [signsB])]
  refine ⟨by decide, (a : Int), ⟨0, [], 0, 0, 0⟩, ?_⟩
  unfold tk0
  unfold docO at *
  rw [e46_at393023, st_f (by decide), so_0 hf (by rfl) (by rfl), interp_ret]
  rfl
 | m + 1, i, h => by
  have hi : i < signsB.length := by show i < 13; omega
  obtain ⟨x, hdx, hgx⟩ := drop_at hi
  have hgx : getI ([123, 125, 40, 41, 91, 93, 60, 62, 44, 59, 58, 61, 42] : List UInt8) (i : Int) = some x := hgx
  have ih := sign_loop_d s hs a c hd ha w m (i + 1) (by omega)
  have w1 : IntKind.i64.wrap ((i : Int) + 1) = ((i + 1 : Nat) : Int) := by rw [wrap_i64] <;> omega
  have w2 : IntKind.i64.wrap ((a : Int) + 1) = ((a + 1 : Nat) : Int) := by rw [wrap_i64] <;> omega
  have ex : ((x.toNat : Int) == (c.toNat : Int)) = (x == c) := u8_eqb x c
  rw [hdx, List.contains_cons]
  by_cases hxc : x = c
  ·have htk : List.take ((((a + 1 : Nat) : Int)).toNat - ((a : Nat) : Int).toNat) (List.drop ((a : Nat) : Int).toNat s) = [c] := by
    rw [Int.toNat_natCast, Int.toNat_natCast, Nat.add_sub_cancel_left, hd]; rfl
   rw [hxc, beq_self_eq_true, Bool.true_or, if_pos rfl]
   show _ = _
   unfold tk0 docO
   rw [e46_at393023, st_t (by omega), st_ob hgx, ex, st_bt (beq_iff_eq.2 hxc), w2, st_if (by omega), st_if (by omega), htk, interp_ret]
   rfl
  ·rw [beq_eq_false_iff_ne.2 (Ne.symm hxc), Bool.false_or]
   have go : rk Tryz.prog pol (Task.at_ 46 1 [false, true, true, true, true, true, true, true, true, true, false, false, true, true, true, true, true, true] (sv 194 (nv a [(4, V.d (D.i .u8 (c.toNat : Int))), (7, V.d (D.i .i64 (i : Int)))])) [] [tk0, docO s (a : Int) 0 w]) =
     rk Tryz.prog pol (Task.at_ 46 1 [false, true, true, true, true, true, true, true, true, true, false, false, true, true, true, true, true, true] (sv 194 (nv a [(4, V.d (D.i .u8 (c.toNat : Int))), (7, V.d (D.i .i64 ((i + 1 : Nat) : Int)))])) [] [tk0, docO s (a : Int) 0 w]) := by
    unfold tk0 docO
    rw [e46_at393023, st_t (by omega), st_ob hgx, ex, st_bf (beq_eq_false_iff_ne.2 hxc), w1, interp_call_ret]
   rw [go]
   exact ih
theorem word_d (s : List UInt8) (hs : s.length ≤ 400) (a : Nat) (ha : a < s.length) (w : Int) : WroteD s a w (wordW (s.drop a) a) (rk Tryz.prog pol (Task.call 46 [V.p 0 0] [docO s (a : Int) 0 w])) := by
 obtain ⟨c, hd, hg⟩ := drop_at ha
 have w1 : IntKind.i64.wrap ((a : Int) + 1) = ((a + 1 : Nat) : Int) := by rw [wrap_i64] <;> omega
 have w2 : IntKind.i64.wrap ((a : Int) + 2) = ((a + 2 : Nat) : Int) := by rw [wrap_i64] <;> omega
 have e46c : ((c.toNat : Int) == 46) = (c == 46) := u8_eqb c 46
 have e43 : ((c.toNat : Int) == 43) = (c == 43) := u8_eqb c 43
 have e45 : ((c.toNat : Int) == 45) = (c == 45) := u8_eqb c 45
 have e34 : ((c.toNat : Int) == 34) = (c == 34) := u8_eqb c 34
 have e39 : ((c.toNat : Int) == 39) = (c == 39) := u8_eqb c 39
 have hh : ∀ {r : WdR} {k : Nat} {o' : Option Out}, WroteD s a w r (rk Tryz.prog pol (Task.call k [V.p 0 0] [docO s (a : Int) 0 w])) →
   (∀ (T : Tok) (x e w' : Int), rk Tryz.prog pol (Task.call k [V.p 0 0] [docO s (a : Int) 0 w]) = some (.d T.D, [docO s x e w']) → o' = some (.d T.D, [docO s x e w'])) → WroteD s a w r o' := fun h H => passD h H
 -- the next byte
 have hto : rk Tryz.prog pol (Task.call 46 [V.p 0 0] [docO s (a : Int) 0 w]) =
   rk Tryz.prog pol (Task.at_ 46 1 [true, true, true, true, true, true] (sv 194 (nv a [(4, V.d (D.i .u8 (c.toNat : Int))), (5, V.d (D.i .u8 ((((s.drop (a + 1)).getD 0 0).toNat : Nat) : Int)))])) [] [tk0, docO s (a : Int) 0 w]) := by
  rcases Nat.lt_or_ge (a + 1) s.length with hlt | hge
  ·obtain ⟨d, hdd, hgd⟩ := drop_at hlt
   rw [hdd, List.getD_cons_zero]
   unfold tk0 docO
   rw [e46, st_ne (by omega), st_ob hg, w1, st_t (by omega), st_ob hgd, interp_call_ret]
  ·rw [List.drop_eq_nil_of_le hge]
   unfold tk0 docO
   rw [e46, st_ne (by omega), st_ob hg, w1, st_f (by omega), interp_call_ret]
   rfl
 generalize hn : (s.drop (a + 1)).getD 0 0 = n at hto
 have en46 : ((n.toNat : Int) == 46) = (n == 46) := u8_eqb n 46
 have hf := dfail_s s (a : Int) 0 w 2 (a : Int)
 have hr1 : (s.drop a).getD 1 0 = n := by rw [hd, List.getD_cons_succ]; exact hn
 have hr2 : (s.drop (a + 1)).getD 1 0 = (s.drop (a + 2)).getD 0 0 := by
  rw [List.getD_eq_getElem?_getD, List.getD_eq_getElem?_getD, List.getElem?_drop, List.getElem?_drop]
 have hw : wordW (s.drop a) a = wordW (c :: s.drop (a + 1)) a := by rw [hd]
 rw [hw]
 unfold wordW
 simp only
 rw [hto]
 have hl := dlet_s c
 have hdg := ddig_s c
 have hdn := ddig_s n
 cases hlt : letB c with
 | true =>
  rw [if_pos rfl, ← hd]
  refine hh (dname_w s (by omega) a (by omega) w) ?_
  intro T x e w' h
  rw [hlt] at hl
  unfold Tok.D tk0 at *
  unfold docO at *
  rw [e46_at127, st_B hl, st_T, so_G h (by rfl) (by rfl) (by rfl), interp_ret]
  rfl
 | false =>
  rw [if_neg (show ¬ (false = true) by decide)]
  rw [hlt] at hl
  -- to the first question: a number by its first byte?
  have h72 : rk Tryz.prog pol (Task.at_ 46 1 [true, true, true, true, true, true] (sv 194 (nv a [(4, V.d (D.i .u8 (c.toNat : Int))), (5, V.d (D.i .u8 ((n.toNat : Nat) : Int)))])) [] [tk0, docO s (a : Int) 0 w]) =
    rk Tryz.prog pol (Task.at_ 46 1 [true, true, true, false, false, true, true, true, true, true, true] (sv 194 (nv a [(4, V.d (D.i .u8 (c.toNat : Int))), (5, V.d (D.i .u8 ((n.toNat : Nat) : Int))), (72, V.d (D.b (isDig c || (c == 46 && isDig n))))])) [] [tk0, docO s (a : Int) 0 w]) := by
   unfold tk0 docO
   rw [e46_at127, st_B hl, st_F, st_B hdg]
   cases hdc : isDig c with
   | true => rw [st_T, interp_call_ret]; rfl
   | false =>
    rw [st_F, e46c]
    cases h46 : (c == 46) with
    | true => rw [st_T, st_B hdn, interp_call_ret]; rfl
    | false => rw [st_F, interp_call_ret]; rfl
  rw [h72]
  -- a number that begins here
  have numOk : ndB (s.drop (a + signN (s.drop a))) = false → (isDig c = true ∨ c = 43 ∨ c = 45 ∨ c = 46) → WroteD s a w (numW (c :: s.drop (a + 1)) a) (rk Tryz.prog pol (Task.call 99 [V.p 0 0] [docO s (a : Int) 0 w])) := by
   intro h _
   rw [← hd]
   exact dnum_w s hs a c hd hg ha h w
  have hsN : signN (s.drop a) = if c = 43 ∨ c = 45 then 1 else 0 := by rw [hd]; rfl
  cases hA : (isDig c || (c == 46 && isDig n)) with
  | true =>
   have hcond : isDig c = true ∨ c = 43 ∨ c = 45 ∨ c = 46 := by
    rw [Bool.or_eq_true, Bool.and_eq_true] at hA
    rcases hA with h | ⟨h, -⟩
    ·exact Or.inl h
    ·exact Or.inr (Or.inr (Or.inr (by simpa using h)))
   have hns : ¬ (c = 43 ∨ c = 45) := by
    rintro (rfl | rfl) <;> exact absurd hA (by simp [isDig])
   have hnd : ndB (s.drop (a + signN (s.drop a))) = false := by
    rw [hsN, if_neg hns, Nat.add_zero]
    unfold ndB
    rw [hr1, hd, List.getD_cons_zero]
    cases h1 : isDig c with
    | true => rfl
    | false => rw [h1, Bool.false_or] at hA; rw [hA]; rfl
   rw [if_pos hcond]
   refine hh (numOk hnd hcond) ?_
   intro T x e w' h
   unfold Tok.D tk0 at *
   unfold docO at *
   rw [e46_at3903, st_T, so_G h (by rfl) (by rfl) (by rfl), interp_ret]
   rfl
  | false =>
   have hndig : isDig c = false := by rw [Bool.or_eq_false_iff] at hA; exact hA.1
   have hdot : (c == 46 && isDig n) = false := by rw [Bool.or_eq_false_iff] at hA; exact hA.2
   have h83 : rk Tryz.prog pol (Task.at_ 46 1 [true, true, true, false, false, true, true, true, true, true, true] (sv 194 (nv a [(4, V.d (D.i .u8 (c.toNat : Int))), (5, V.d (D.i .u8 ((n.toNat : Nat) : Int))), (72, V.d (D.b false))])) [] [tk0, docO s (a : Int) 0 w]) =
     rk Tryz.prog pol (Task.at_ 46 1 [true, true, true, true, true, false, false, true, true, true, true, true, true] (sv 194 (nv a [(4, V.d (D.i .u8 (c.toNat : Int))), (5, V.d (D.i .u8 ((n.toNat : Nat) : Int))), (83, V.d (D.b (c == 43 || c == 45)))])) [] [tk0, docO s (a : Int) 0 w]) := by
    unfold tk0 docO
    rw [e46_at3903, st_F, e43]
    cases h43 : (c == 43) with
    | true => rw [st_T, interp_call_ret]; rfl
    | false => rw [st_F, interp_call_ret, e45]; rfl
   rw [h83]
   -- that is none
   have numBad : ndB (s.drop (a + signN (s.drop a))) = true → c ≠ 48 → numW (c :: s.drop (a + 1)) a = .inr (2, a) := by
    intro h h48
    have h2 := (nd_eq _).1 h
    rw [← List.drop_drop] at h2
    rw [← hd, numW_eq, if_neg (by rintro ⟨-, h, -⟩; rw [hd] at h; exact h48 (Option.some.inj h))]
    unfold numT
    simp only
    rw [if_pos h2]
   have h48 : c ≠ 48 := fun e => by rw [e] at hndig; exact absurd hndig (by decide)
   cases hS : (c == 43 || c == 45) with
   | true =>
    have hsc : c = 43 ∨ c = 45 := by simpa using hS
    have hcond : isDig c = true ∨ c = 43 ∨ c = 45 ∨ c = 46 := by rcases hsc with h | h; exact Or.inr (Or.inl h); exact Or.inr (Or.inr (Or.inl h))
    rw [if_pos hcond]
    have hsN1 : signN (s.drop a) = 1 := by rw [hsN, if_pos hsc]
    have go : rk Tryz.prog pol (Task.at_ 46 1 [true, true, true, true, true, false, false, true, true, true, true, true, true] (sv 194 (nv a [(4, V.d (D.i .u8 (c.toNat : Int))), (5, V.d (D.i .u8 ((n.toNat : Nat) : Int))), (83, V.d (D.b true))])) [] [tk0, docO s (a : Int) 0 w]) =
      rk Tryz.prog pol (Task.at_ 46 1 [true, false, true, true, true, true, true, false, false, true, true, true, true, true, true] (sv 194 (nv a [(115, V.d (D.b (!ndB (s.drop (a + 1)))))])) [] [tk0, docO s (a : Int) 0 w]) := by
     unfold ndB
     rw [hn, hr2]
     unfold tk0 docO
     rw [e46_at16191, st_T, st_B hdn]
     cases h1 : isDig n with
     | true => rw [st_T, interp_call_ret]; rfl
     | false =>
      rw [st_F, en46]
      cases h46 : (n == 46) with
      | false => rw [st_F, interp_call_ret]; rfl
      | true =>
       rw [st_T, w2]
       rcases Nat.lt_or_ge (a + 2) s.length with hlt | hge
       ·obtain ⟨d, hdd, hgd⟩ := drop_at hlt
        rw [st_t (by omega), st_ob hgd, st_B (ddig_s d), interp_call_ret, hdd, List.getD_cons_zero]
        cases isDig d <;> rfl
       ·rw [st_f (by omega), interp_call_ret, List.drop_eq_nil_of_le hge]
        rfl
    rw [go]
    cases hnb : ndB (s.drop (a + 1)) with
    | false =>
     refine hh (numOk (by rw [hsN1]; exact hnb) hcond) ?_
     intro T x e w' h
     unfold Tok.D tk0 at *
     unfold docO at *
     rw [e46_at57151, Bool.not_false, st_T, so_G h (by rfl) (by rfl) (by rfl), interp_ret]
     rfl
    | true =>
     rw [numBad (by rw [hsN1]; exact hnb) h48]
     refine ⟨by decide, (a : Int), ⟨0, [], 0, 0, 0⟩, ?_⟩
     unfold tk0
     unfold docO at *
     rw [e46_at57151, Bool.not_true, st_F, so_0 hf (by rfl) (by rfl), interp_ret]
     rfl
   | false =>
    have hns : ¬ (c = 43 ∨ c = 45) := by
     intro h
     have : (c == 43 || c == 45) = true := by simpa using h
     rw [hS] at this; cases this
    have h118 : rk Tryz.prog pol (Task.at_ 46 1 [true, true, true, true, true, false, false, true, true, true, true, true, true] (sv 194 (nv a [(4, V.d (D.i .u8 (c.toNat : Int))), (5, V.d (D.i .u8 ((n.toNat : Nat) : Int))), (83, V.d (D.b false))])) [] [tk0, docO s (a : Int) 0 w]) =
      rk Tryz.prog pol (Task.at_ 46 1 [true, true, true, true, true, true, true, false, false, true, true, true, true, true, true] (sv 194 (nv a [(4, V.d (D.i .u8 (c.toNat : Int))), (118, V.d (D.b (c == 34 || c == 39)))])) [] [tk0, docO s (a : Int) 0 w]) := by
     unfold tk0 docO
     rw [e46_at16191, st_F, e34]
     cases h34 : (c == 34) with
     | true => rw [st_T, interp_call_ret]; rfl
     | false => rw [st_F, interp_call_ret, e39]; rfl
    rw [h118]
    have hsign : ∀ bq : Bool, bq = (c == 34 || c == 39) → bq = false →
      rk Tryz.prog pol (Task.at_ 46 1 [true, true, true, true, true, true, true, false, false, true, true, true, true, true, true] (sv 194 (nv a [(4, V.d (D.i .u8 (c.toNat : Int))), (118, V.d (D.b bq))])) [] [tk0, docO s (a : Int) 0 w]) =
      rk Tryz.prog pol (Task.at_ 46 1 [false, true, true, true, true, true, true, true, true, true, false, false, true, true, true, true, true, true] (sv 194 (nv a [(4, V.d (D.i .u8 (c.toNat : Int))), (7, V.d (D.i .i64 ((0 : Nat) : Int)))])) [] [tk0, docO s (a : Int) 0 w]) := by
     intro bq _ h
     rw [h]
     unfold tk0 docO
     rw [e46_at65343, st_F, interp_call_ret]
     rfl
    have hsl := sign_loop_d s (by omega) a c hd ha w 13 0 rfl
    rw [List.drop_zero] at hsl
    by_cases h46 : c = 46
    ·-- a dot that begins nothing
     have hcond : isDig c = true ∨ c = 43 ∨ c = 45 ∨ c = 46 := Or.inr (Or.inr (Or.inr h46))
     have hnd : ndB (s.drop (a + signN (s.drop a))) = true := by
      rw [hsN, if_neg hns, Nat.add_zero]
      unfold ndB
      rw [hr1, hd, List.getD_cons_zero, hndig, hdot]; rfl
     have hq : (c == 34 || c == 39) = false := by rw [h46]; rfl
     rw [if_pos hcond, numBad hnd h48, hsign _ rfl hq]
     rw [if_neg (show ¬ (signsB.contains c = true) by rw [h46]; decide)] at hsl
     exact hsl
    ·have hcond : ¬ (isDig c = true ∨ c = 43 ∨ c = 45 ∨ c = 46) := by
      rintro (h | h | h | h)
      ·rw [hndig] at h; cases h
      ·exact hns (Or.inl h)
      ·exact hns (Or.inr h)
      ·exact h46 h
     rw [if_neg hcond]
     by_cases hq : c = 34 ∨ c = 39
     ·have hqb : (c == 34 || c == 39) = true := by simpa using hq
      rw [if_pos hq, hqb]
      exact text_d s (by omega) a c ha hq w
     ·have hqb : (c == 34 || c == 39) = false := by
       cases e : (c == 34 || c == 39) with
       | false => rfl
       | true => exact absurd (by simpa using e) hq
      rw [if_neg hq, hsign _ rfl hqb]
      exact hsl
end Go.Dn.Dec
namespace Go.Dn.Dec
open Go.Proofs
theorem e21_at43 (b_0 : Bool) (l_1 : List D) (b_2 : Bool) (l_3 : List D) (n_4 : Int) : rk Tryz.prog pol (Task.at_ 21 0 [false, true, false, true, true] (sv 26 [(0, V.d (D.l b_0 l_1)), (1, V.d (D.l b_2 l_3)), (5, V.d (D.i .i64 n_4))]) [] []) = interp (rk Tryz.prog pol) ( brB (decide (n_4 < (↑l_1.length : Int))) (ob (getI l_1 n_4) fun d_0 => ift (d_0.width == 5) (ob l_1[n_4.toNat]? fun d_1 => ift (decide (5 ≤ d_1.width)) (ob (getI l_3 n_4) fun d_2 => ift (d_2.width == 5) (ob l_3[n_4.toNat]? fun d_3 => ift (decide (5 ≤ d_3.width)) (ob (eqG [2, 3, 2, 2, 2] (V.d (D.g [(List.take 5 (List.drop 0 d_1.cells)).getD 0 (D.b false), (List.take 5 (List.drop 0 d_1.cells)).getD 1 (D.b false), (List.take 5 (List.drop 0 d_1.cells)).getD 2 (D.b false), (List.take 5 (List.drop 0 d_1.cells)).getD 3 (D.b false), (List.take 5 (List.drop 0 d_1.cells)).getD 4 (D.b false)])) (V.d (D.g [(List.take 5 (List.drop 0 d_3.cells)).getD 0 (D.b false), (List.take 5 (List.drop 0 d_3.cells)).getD 1 (D.b false), (List.take 5 (List.drop 0 d_3.cells)).getD 2 (D.b false), (List.take 5 (List.drop 0 d_3.cells)).getD 3 (D.b false), (List.take 5 (List.drop 0 d_3.cells)).getD 4 (D.b false)]))) fun b_4 => brB (!b_4) (Tr.ret (V.d (D.b false), [])) (Tr.call (Task.at_ 21 0 [false, true, false, true, true] (sv 26 [(0, V.d (D.l b_0 l_1)), (1, V.d (D.l b_2 l_3)), (5, V.d (D.i .i64 (IntKind.i64.wrap (n_4 + 1))))]) [] []) Tr.ret)))))) (Tr.ret (V.d (D.b true), []))) :=
 rk_of (by kernel_rfl)
abbrev dlx (b : Bool) (L : List Tok) (o : Ob) : Task := Task.at_ 20 0 [false, true, true, true, true] (sv 52 [(5, V.p 0 0), (6, V.d (D.l b (tks L)))]) [(6, 5)] [o]
section
variable {f : Task → Option Out}
theorem cs_2 {a b d : V} {i : Int} {K : Int → Tr} : interp f (ob [a, b, V.d (D.i .i64 i), d][2]? fun v => asD v fun d => asI .i64 d fun n => K n) = interp f (K i) := by
 rw [st_ob (a := V.d (D.i .i64 i)) (by rfl), asD_d, st_asI]
theorem cs_3 {a b c : V} {i : Int} {K : Int → Tr} : interp f (ob [a, b, c, V.d (D.i .i64 i)][3]? fun v => asD v fun d => asI .i64 d fun n => K n) = interp f (K i) := by
 rw [st_ob (a := V.d (D.i .i64 i)) (by rfl), asD_d, st_asI]
end
theorem dlex_put (s : List UInt8) (a x : Nat) (b : Bool) (L : List Tok) (hL : L.length ≤ 100000) (T : Tok) (x' : Int)
  (h1 : rk Tryz.prog pol (Task.call 45 [V.p 0 0] [docO s (a : Int) 0 0]) = some (.t [], [docO s (x : Int) 0 0]))
  (h2 : rk Tryz.prog pol (Task.call 46 [V.p 0 0] [docO s (x : Int) 0 0]) = some (.d T.D, [docO s x' 0 0])) :
  rk Tryz.prog pol (dlx b L (docO s (a : Int) 0 0)) = if T.kind = 6 then some (lxOut (L ++ [T], 0, 0)) else rk Tryz.prog pol (dlx false (L ++ [T]) (docO s x' 0 0)) := by
 have hsn := tks_snoc L T
 have hemp : (L ++ [T]).isEmpty = false := by cases L <;> rfl
 unfold lxOut dlx
 simp only
 rw [hemp]
 unfold Tok.D at h2 hsn
 unfold docO at *
 rw [e20_at47_1, so_0 h1 (by rfl) (by rfl), cs_2, st_ne_f rfl, so_G h2 (by rfl) (by rfl) (by rfl), cs_2, st_ne_f rfl, tks_head, st_ift, st_if' (by cases b <;> rfl), st_if (by rw [tks_len]; omega)]
 show interp _ (asI .i64 (D.i .i64 (T.kind : Int)) _) = _
 rw [st_asI]
 show interp _ (brB ((T.kind : Int) == 6) (Tr.ret (V.t [V.d (D.l (b && false) (tks L ++ [D.g [D.i .i64 (T.kind : Int), D.s T.text, D.i .i64 T.n, D.i .u64 (T.d : Int), D.i .i64 (T.at_ : Int)]])), V.d (D.i .i64 0), V.d (D.i .i64 0)], []))
  (Tr.call (Task.at_ 20 0 [false, true, true, true, true] (sv 52 [(5, V.p 0 0), (6, V.d (D.l (b && false) (tks L ++ [D.g [D.i .i64 (T.kind : Int), D.s T.text, D.i .i64 T.n, D.i .u64 (T.d : Int), D.i .i64 (T.at_ : Int)]])))]) [(6, 5)] [Ob.cells [V.d (D.s s), V.d (D.i .i64 x'), V.d (D.i .i64 0), V.d (D.i .i64 0)] []]) Tr.ret)) = _
 rw [hsn, Bool.and_false]
 by_cases hk : T.kind = 6
 ·rw [if_pos hk, st_eq (by omega), interp_ret]; rfl
 ·rw [if_neg hk, st_ne (by omega), interp_call_ret]
theorem dlex_e1 (s : List UInt8) (a : Nat) (b : Bool) (L : List Tok) (x e : Int) (w' : Nat) (he : e ≠ 0)
  (h1 : rk Tryz.prog pol (Task.call 45 [V.p 0 0] [docO s (a : Int) 0 0]) = some (.t [], [docO s x e (w' : Int)])) :
  rk Tryz.prog pol (dlx b L (docO s (a : Int) 0 0)) = some (lxOut ([], e, w')) := by
 unfold dlx
 unfold docO at *
 rw [e20_at47_1, so_0 h1 (by rfl) (by rfl), cs_2, st_ne_t he, cs_2, cs_3, interp_ret]
 rfl
theorem dlex_e2 (s : List UInt8) (a x : Nat) (b : Bool) (L : List Tok) (T : Tok) (x' e : Int) (w' : Nat) (he : e ≠ 0)
  (h1 : rk Tryz.prog pol (Task.call 45 [V.p 0 0] [docO s (a : Int) 0 0]) = some (.t [], [docO s (x : Int) 0 0]))
  (h2 : rk Tryz.prog pol (Task.call 46 [V.p 0 0] [docO s (x : Int) 0 0]) = some (.d T.D, [docO s x' e (w' : Int)])) :
  rk Tryz.prog pol (dlx b L (docO s (a : Int) 0 0)) = some (lxOut ([], e, w')) := by
 unfold dlx
 unfold Tok.D at h2
 unfold docO at *
 rw [e20_at47_1, so_0 h1 (by rfl) (by rfl), cs_2, st_ne_f rfl, so_G h2 (by rfl) (by rfl) (by rfl), cs_2, st_ne_t he, cs_2, cs_3, interp_ret]
 rfl
theorem dlex_loop (s : List UInt8) (hs : s.length ≤ 400) : ∀ (f a : Nat) (b : Bool) (L : List Tok), s.length - a < f → a ≤ s.length → L.length ≤ a →
  rk Tryz.prog pol (dlx b L (docO s (a : Int) 0 0)) = some (lxOut (lexF f (s.drop a) a L))
 | 0, a, b, L, h, _, _ => by omega
 | f + 1, a, b, L, h, ha, hL => by
  have hlen : (s.drop a).length = s.length - a := List.length_drop ..
  have hk := skip_ok (s.drop a).length (s.drop a) 0
  have hsk := dspace_s s (by omega) 0 a (s.drop a).length 0 (by omega) (by omega)
  have h45 : rk Tryz.prog pol (Task.call 45 [V.p 0 0] [docO s (a : Int) 0 0]) = rk Tryz.prog pol (dsp (docO s (a : Int) 0 0)) := by
   unfold dsp docO; rw [e45, interp_call_ret]
  unfold lexF
  rw [Nat.add_zero] at hsk
  generalize skipF (s.drop a).length (s.drop a) 0 = K at *
  obtain ⟨k, bb⟩ := K
  simp only at hk
  cases bb with
  | false => exact dlex_e1 s a b L _ 2 (a + k) (by decide) (h45.trans hsk)
  | true =>
   have h1 : rk Tryz.prog pol (Task.call 45 [V.p 0 0] [docO s (a : Int) 0 0]) = some (.t [], [docO s ((a + k : Nat) : Int) 0 0]) := h45.trans hsk
   simp only
   by_cases he : (s.drop a).length ≤ k
   ·rw [if_pos he]
    have e1 : a + (s.drop a).length = s.length := by omega
    have e2 : a + k = s.length := by omega
    have h2 : rk Tryz.prog pol (Task.call 46 [V.p 0 0] [docO s ((a + k : Nat) : Int) 0 0]) = some (.d (Tok.D ⟨6, [], 0, 0, s.length⟩), [docO s ((a + k : Nat) : Int) 0 0]) := by
     rw [e2]
     unfold docO Tok.D
     rw [e46, st_eq rfl, interp_ret]
     rfl
    rw [e1, dlex_put s a (a + k) b L (by omega) ⟨6, [], 0, 0, s.length⟩ _ h1 h2, if_pos rfl]
   ·rw [if_neg he]
    have hw := word_d s hs (a + k) (by omega) 0
    have hok := word_ok (s.drop (a + k)) (a + k)
    rw [List.drop_drop]
    generalize wordW (s.drop (a + k)) (a + k) = W at *
    match W, hw, hok with
    | .inr (e, w'), ⟨hne, x', T, h2⟩, hok => exact dlex_e2 s a (a + k) b L T x' e w' hne h1 h2
    | .inl (t, n), h2, hok =>
     have h2 : rk Tryz.prog pol (Task.call 46 [V.p 0 0] [docO s ((a + k : Nat) : Int) 0 0]) = some (.d t.D, [docO s ((a + k + n : Nat) : Int) 0 0]) := h2
     obtain ⟨-, i1, i2, i3, -⟩ := hok
     rw [List.length_drop] at i2
     simp only
     rw [dlex_put s a (a + k) b L (by omega) t _ h1 h2, if_neg i3, List.drop_drop, ← Nat.add_assoc]
     exact dlex_loop s hs f (a + k + n) false (L ++ [t]) (by omega) (by omega) (by rw [List.length_append, List.length_singleton]; omega)
theorem dlex_s (s : List UInt8) (hs : s.length ≤ 400) : rk Tryz.prog pol (Task.call 20 [V.d (D.s s)] []) = some (lxOut (lexB s)) := by
 unfold lexB
 rw [e20, st_f (by omega), interp_call_ret, if_neg (by omega)]
 exact dlex_loop s hs (s.length + 1) 0 true [] (by omega) (by omega) (by simp)
theorem tks_get (W : List Tok) (i : Nat) (h : i < W.length) : (tks W)[(i : Int).toNat]? = some W[i].D := by
 rw [Int.toNat_natCast]; unfold tks; rw [List.getElem?_map, List.getElem?_eq_getElem h]; rfl
theorem tks_getI (W : List Tok) (i : Nat) (h : i < W.length) : getI (tks W) (i : Int) = some W[i].D := by
 rw [getI_nat]; unfold tks; rw [List.getElem?_map, List.getElem?_eq_getElem h]; rfl
theorem same_loop (b c : Bool) (W : List Tok) (hW : W.length ≤ 100000) : ∀ (m i : Nat), i + m = W.length →
  rk Tryz.prog pol (Task.at_ 21 0 [false, true, false, true, true] (sv 26 [(0, V.d (D.l b (tks W))), (1, V.d (D.l c (tks W))), (5, V.d (D.i .i64 (i : Int)))]) [] []) = some (.d (.b true), [])
 | 0, i, h => by rw [e21_at43, st_f (by rw [tks_len]; omega), interp_ret]
 | m + 1, i, h => by
  have hi : i < W.length := by omega
  have ih := same_loop b c W hW m (i + 1) (by omega)
  have w1 : IntKind.i64.wrap ((i : Int) + 1) = ((i + 1 : Nat) : Int) := by rw [wrap_i64] <;> omega
  have hq : eqG [2, 3, 2, 2, 2] (V.d (D.g [D.i .i64 (W[i].kind : Int), D.s W[i].text, D.i .i64 W[i].n, D.i .u64 (W[i].d : Int), D.i .i64 (W[i].at_ : Int)]))
    (V.d (D.g [D.i .i64 (W[i].kind : Int), D.s W[i].text, D.i .i64 W[i].n, D.i .u64 (W[i].d : Int), D.i .i64 (W[i].at_ : Int)])) = some true := by
   simp [eqG, eqDs, eqD]
  rw [e21_at43, st_t (by rw [tks_len]; omega), st_ob (tks_getI W i hi)]
  show interp _ (ift true _) = _
  rw [st_ift, st_ob (tks_get W i hi)]
  show interp _ (ift true _) = _
  rw [st_ift, st_ob (tks_getI W i hi)]
  show interp _ (ift true _) = _
  rw [st_ift, st_ob (tks_get W i hi)]
  show interp _ (ift true _) = _
  rw [st_ift]
  show interp _ (ob (eqG [2, 3, 2, 2, 2] (V.d (D.g [D.i .i64 (W[i].kind : Int), D.s W[i].text, D.i .i64 W[i].n, D.i .u64 (W[i].d : Int), D.i .i64 (W[i].at_ : Int)]))
    (V.d (D.g [D.i .i64 (W[i].kind : Int), D.s W[i].text, D.i .i64 W[i].n, D.i .u64 (W[i].d : Int), D.i .i64 (W[i].at_ : Int)]))) _) = _
  rw [st_ob hq, st_nt, w1, interp_call_ret, ih]
theorem same_s (b c : Bool) (W : List Tok) (hW : W.length ≤ 100000) : rk Tryz.prog pol (Task.call 21 [V.d (D.l b (tks W)), V.d (D.l c (tks W))] []) = some (.d (.b true), []) := by
 rw [e21, st_ne_f rfl, interp_call_ret]
 exact same_loop b c W hW W.length 0 (Nat.zero_add _)
section
variable {f : Task → Option Out}
theorem st_LII {t : Task} {k j : IntKind} {b : Bool} {l : List D} {n m : Int} {e e' e'' : V} {K : Bool → List D → Int → Int → Tr} (h : f t = some (.t [.d (.l b l), .d (.i k n), .d (.i j m)], [])) :
  interp f (.call t fun o => ift o.snd.isEmpty (unT o.fst fun l => ift (l.length == 3) (asD (l.getD 0 e) fun d => asL d fun x y => asD (l.getD 1 e') fun d' => asI k d' fun z => asD (l.getD 2 e'') fun d'' => asI j d'' fun w => K x y z w))) = interp f (K b l n m) := by
 rw [st_call h]
 show interp f (asI k (.i k n) fun x => asI j (.i j m) fun y => K b l x y) = _
 rw [interp_asI, if_pos rfl, interp_asI, if_pos rfl]
end
theorem lexB_len (s : List UInt8) (hs : s.length ≤ 2000) : (lexB s).1.length ≤ 100000 := by
 rcases lex_places s with ⟨l', hg, e⟩ | ⟨e, w, he, -, -⟩
 ·rw [e]
  obtain ⟨h1, h2⟩ := hg
  have hbound : ∀ (k : Nat) (hk : k < l'.length), k ≤ l'[k].at_ := by
   intro k
   induction k with
   | zero => intro _; exact Nat.zero_le _
   | succ k ih =>
    intro hk
    have h3 := ih (by omega)
    have h4 := List.pairwise_iff_getElem.1 h2 k (k + 1) (by omega) hk (by omega)
    omega
  show (l' ++ [_]).length ≤ _
  rw [List.length_append, List.length_singleton]
  rcases Nat.eq_zero_or_pos l'.length with h0 | h0
  ·omega
  ·have h3 := hbound (l'.length - 1) (by omega)
   have h4 := (h1 _ (List.getElem_mem (show l'.length - 1 < l'.length by omega))).2.2
   omega
 ·rw [he]; exact Nat.zero_le _
theorem beg1 : lexB [97, 32, 61, 32, 49] = ([⟨1, [97], 0, 0, 0⟩, ⟨5, [61], 0, 0, 2⟩, ⟨2, [], 1, 0, 4⟩, ⟨6, [], 0, 0, 5⟩], 0, 0) := by kernel_rfl
theorem beg2 : lexB [97, 32, 63] = ([], 2, 2) := by kernel_rfl
theorem begun_t : rk Tryz.prog pol (Task.call 18 [] []) = some (.d (.b true), []) := by
 have h1 := lex_s [97, 32, 61, 32, 49]
 have h2 := lex_s [97, 32, 63]
 rw [beg1] at h1
 rw [beg2] at h2
 rw [t9, st_LII h1, st_LII h2]
 rfl
theorem lexes_s (s : List UInt8) : rk Tryz.prog pol (Task.call 6 [V.d (D.s s)] []) = some (.d (.b true), []) := by
 rw [e6, st_B begun_t, st_nt]
 by_cases h : 300 < s.length
 ·rw [st_t (by omega), interp_ret]
 ·have h1 := lex_s s
  have h2 := dlex_s s (by omega)
  have h3 := same_s (lexB s).1.isEmpty (lexB s).1.isEmpty (lexB s).1 (lexB_len s (by omega))
  unfold lxOut at h1 h2
  rw [st_f (by omega), st_LII h1, st_LII h2, st_eq rfl, st_eq rfl, st_B h3, interp_ret]
end Go.Dn.Dec
