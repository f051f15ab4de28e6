/- the token's functions. Printed by a program of mine. -/
import Derived.Test.YtbjllhjbhdjfjaaGreatDoorP5
import Derived.Test.YtbjllhjbhdjfjaaGreatDoorP4
import Derived.KernelRfl
import Derived.Test.YtbjllhjbhdjfjaaGreatDoorP7
import Derived.Test.YtbjllhjbhdjfjaaGreatDoorP6
namespace Go.Dn.Dec
open Go.Proofs
theorem t46 (c : Int) : rk Tryz.prog pol (.call 91 [.d (.i .u8 c)] []) = interp (rk Tryz.prog pol) (brB (decide (c ≥ 48)) (.ret (vb (decide (c ≤ 57)), [])) (.ret (vb false, []))) :=
 rk_of (by kernel_rfl)
theorem t20 (s : List UInt8) (a e w : Int) (b : Bool) (l : List D) : rk Tryz.prog pol (.call 43 [.p 0 0] [.cells [vs s, vi a, vi e, vi w, vl b l] [(4, 5)]]) = interp (rk Tryz.prog pol) (brB (decide (a ≥ (s.length : Int))) (.ret (vb false, [.cells [vs s, vi a, vi e, vi w, vl b l] [(4, 5)]])) (ob (getI s a) fun c => cV (.call 85 [vs [9, 10, 13, 32], .d (.i .u8 (c.toNat : Int))] []) fun f => asD f fun g => asI .i64 g fun h => brB (decide (h ≥ 0)) (.ret (vb true, [.cells [vs s, vi (IntKind.i64.wrap (a + 1)), vi e, vi w, vl b l] [(4, 5)]])) (ob (getI s a) fun j => brB ((j.toNat : Int) == 35) (.call (.at_ 43 1 [true, true, true, true, true, false, false, true, true] (sv 106 [(0, .p 0 0), (3, vi a), (38, vb true)]) [] [.cells [vs s, vi a, vi e, vi w, vl b l] [(4, 5)]]) .ret) (ob (getI s a) fun k => brB ((k.toNat : Int) == 47) (c1 (.call 86 [.p 0 0, vi 1] [.cells [vs s, vi a, vi e, vi w, vl b l] [(4, 5)]]) 5 [(4, 5)] fun m n => asD m fun o => asI .u8 o fun q => .call (.at_ 43 1 [true, true, true, true, true, false, false, true, true] (sv 106 [(0, .p 0 0), (3, vi a), (38, vb (q == 47))]) [] [.cells n [(4, 5)]]) .ret) (.call (.at_ 43 1 [true, true, true, true, true, false, false, true, true] (sv 106 [(0, .p 0 0), (3, vi a), (38, vb false)]) [] [.cells [vs s, vi a, vi e, vi w, vl b l] [(4, 5)]]) .ret))))) :=
 rk_of (by kernel_rfl)
theorem t21 (s : List UInt8) (a e w : Int) (b : Bool) (l : List D) : rk Tryz.prog pol (.call 44 [.p 0 0] [.cells [vs s, vi a, vi e, vi w, vl b l] [(4, 5)]]) = interp (rk Tryz.prog pol) (ob (getI s a) fun c => cV (.call 89 [.d (.i .u8 (c.toNat : Int))] []) fun f => asD f fun g => asB g fun h => brB h (c1 (.call 90 [.p 0 0] [.cells [vs s, vi a, vi e, vi w, vl b l] [(4, 5)]]) 5 [(4, 5)] fun j k => unT j fun m => ift (m.length == 0) (.ret (.t [], [.cells k [(4, 5)]]))) (cV (.call 91 [.d (.i .u8 (c.toNat : Int))] []) fun n => asD n fun o => asB o fun q => brB q (.call (.at_ 44 1 [true, true, true, false, true] (sv 85 [(0, .p 0 0), (2, .d (.i .u8 (c.toNat : Int))), (28, vb true)]) [] [.cells [vs s, vi a, vi e, vi w, vl b l] [(4, 5)]]) .ret) (brB ((c.toNat : Int) == 43) (.call (.at_ 44 1 [true, true, true, false, true] (sv 85 [(0, .p 0 0), (2, .d (.i .u8 (c.toNat : Int))), (28, vb true)]) [] [.cells [vs s, vi a, vi e, vi w, vl b l] [(4, 5)]]) .ret) (brB ((c.toNat : Int) == 45) (.call (.at_ 44 1 [true, true, true, false, true] (sv 85 [(0, .p 0 0), (2, .d (.i .u8 (c.toNat : Int))), (28, vb true)]) [] [.cells [vs s, vi a, vi e, vi w, vl b l] [(4, 5)]]) .ret) (.call (.at_ 44 1 [true, true, true, false, true] (sv 85 [(0, .p 0 0), (2, .d (.i .u8 (c.toNat : Int))), (28, vb ((c.toNat : Int) == 46))]) [] [.cells [vs s, vi a, vi e, vi w, vl b l] [(4, 5)]]) .ret))))) :=
 rk_of (by kernel_rfl)
theorem t9 : rk Tryz.prog pol (.call 18 [] []) = interp (rk Tryz.prog pol) (cV (.call 19 [vs [97, 32, 61, 32, 49]] []) fun a => unT a fun c => ift (c.length == 3) (asD (c.getD 0 (vb false)) fun e => asL e fun f g => asD (c.getD 1 (vb false)) fun h => asI .i64 h fun i => asD (c.getD 2 (vb false)) fun j => asI .i64 j fun k => cV (.call 19 [vs [97, 32, 63]] []) fun l => unT l fun m => ift (m.length == 3) (asD (m.getD 0 (vb false)) fun n => asL n fun o p => asD (m.getD 1 (vb false)) fun q => asI .i64 q fun r => asD (m.getD 2 (vb false)) fun t => asI .i64 t fun zu => brB (i == 0) (brB ((g.length : Int) == 4) (ob (getI g 2) fun v => ift (v.width == 5) (ob g[2]? fun w => ob w.cells[2]? fun x => asI .i64 x fun y => brB (y == 1) (ob (getI g 3) fun z => ift (z.width == 5) (ob g[3]? fun a0 => ob a0.cells[0]? fun a1 => asI .i64 a1 fun a2 => brB (a2 == 6) (brB (r == 2) (.ret (vb (zu == 2), [])) (.ret (vb false, []))) (.ret (vb false, [])))) (.ret (vb false, [])))) (.ret (vb false, []))) (.ret (vb false, []))))) :=
 rk_of (by kernel_rfl)
end Go.Dn.Dec
namespace Go.Dn.Dec
open Go.Proofs
end Go.Dn.Dec
namespace Go.Dn.Dec
open Go.Proofs
end Go.Dn.Dec
namespace Go.Dn.Dec
open Go.Proofs
end Go.Dn.Dec
namespace Go.Dn.Dec
open Go.Proofs
end Go.Dn.Dec
namespace Go.Dn.Dec
open Go.Proofs
end Go.Dn.Dec
namespace Go.Dn.Dec
open Go.Proofs
end Go.Dn.Dec
namespace Go.Dn.Dec
end Go.Dn.Dec
namespace Go.Dn.Dec
open Go.Proofs
def Tok.D (t : Tok) : D := .g [.i .i64 (t.kind : Int), .s t.text, .i .i64 t.n, .i .u64 (t.d : Int), .i .i64 (t.at_ : Int)]
end Go.Dn.Dec
namespace Go.Dn.Dec
open Go.Proofs
end Go.Dn.Dec
namespace Go.Dn.Dec
open Go.Proofs
end Go.Dn.Dec
namespace Go.Dn.Dec
open Go.Proofs
end Go.Dn.Dec
namespace Go.Dn.Dec
open Go.Proofs
end Go.Dn.Dec
namespace Go.Dn.Dec
open Go.Proofs
end Go.Dn.Dec
namespace Go.Dn.Dec
open Go.Proofs
end Go.Dn.Dec
namespace Go.Dn.Dec
open Go.Proofs
end Go.Dn.Dec
namespace Go.Dn.Dec
open Go.Proofs
end Go.Dn.Dec
namespace Go.Dn.Dec
open Go.Proofs
section
variable {f : Task → Option Out}
end
def o2 (x : Nat × Int) : Option Out := some (.t [.d (.i .u64 (x.1 : Nat)), .d (.i .i64 x.2)], [])
end Go.Dn.Dec
namespace Go.Dn.Dec
open Go.Proofs
set_option exponentiation.threshold 5000000
end Go.Dn.Dec
namespace Go.Dn.Dec
open Go.Proofs
set_option exponentiation.threshold 5000000
theorem cmpN_ge (x y : Nat) : decide (cmpN x y ≥ 0) = !decide (x < y) := by
 unfold cmpN
 by_cases h : x < y
 ·simp [h]
 ·by_cases h2 : y < x <;> simp [h, h2]
theorem above_ws (b c : Bool) (x y : Nat) (hx : Sml x) (hy : Sml y) (n : Int) (h1 : -700 ≤ n) (h2 : n ≤ 700) :
  rk Tryz.prog pol (Task.call 104 [V.d (D.l b (ws x)), V.d (D.l c (ws y)), V.d (D.i .i64 n)] []) = some (.d (.b (!belowN x y n)), []) := by
 rw [f42]
 unfold belowN
 by_cases h : n < 0
 ·have hw : IntKind.i64.wrap (0 - n) = ((-n).toNat : Int) := by rw [wrap_i64] <;> omega
  have ht := rten_ws (-n).toNat (by omega)
  have hm := rmul_ws b (tb (-n).toNat) x (10 ^ (-n).toNat) hx.mid.fits (mid_lt (pow10_lt (by omega))).fits
  have hc := rcmp_ws (nb (x * 10 ^ (-n).toNat)) c (x * 10 ^ (-n).toNat) y (hx.mul (by omega)).fits hy.mid.fits
  rw [st_f (by omega), hw, st_L ht, st_L hm, st_I hc, interp_ret, cmpN_ge, if_pos h]
 ·have hw : n = (n.toNat : Int) := by omega
  have ht := rten_ws n.toNat (by omega)
  rw [← hw] at ht
  have hm := rmul_ws c (tb n.toNat) y (10 ^ n.toNat) hy.mid.fits (mid_lt (pow10_lt (by omega))).fits
  have hc := rcmp_ws b (nb (y * 10 ^ n.toNat)) x (y * 10 ^ n.toNat) hx.mid.fits (hy.mul (by omega)).fits
  rw [st_t (by omega), st_L ht, st_L hm, st_I hc, interp_ret, cmpN_ge, if_neg h]
theorem below_mono {x y : Nat} {n m : Int} (h : n ≤ m) (hb : belowN x y n = true) : belowN x y m = true := by
 rw [below_shift x y m n (m - n).toNat (by omega)]
 rw [belowN_eq] at hb
 have h1 := of_decide_eq_true hb
 exact decide_eq_true (Nat.lt_of_lt_of_le h1 (Nat.le_mul_of_pos_right _ (Nat.pow_pos (by decide))))
theorem start_low (x y : Nat) (hx0 : 0 < x) (hx : Sml x) (hy : Sml y) : belowN x y ((((blen x : Int) - blen y) * 30103).tdiv 100000 - 2) = false := by
 have lx := hx.blen
 have ly := hy.blen
 have bx := blen_le x (by omega)
 have by_ := lt_blen y
 have px := blen_pos (n := x) (by omega)
 rcases Int.le_total 0 ((blen x : Int) - blen y) with h | h
 ·obtain ⟨d, hd⟩ : ∃ d : Nat, (blen x : Int) - blen y = d := ⟨((blen x : Int) - blen y).toNat, by omega⟩
  rw [hd]
  have e : ((d : Int) * 30103).tdiv 100000 = ((d * 30103 / 100000 : Nat) : Int) := tdiv_nat (d * 30103) 100000
  have hc := List.all_eq_true.1 chk_dn d (List.mem_range.2 (by omega))
  rw [decide_eq_true_eq] at hc
  rw [e]
  generalize d * 30103 / 100000 = t at hc
  -- y * 2^d < 2 * x
  have e2 : 2 ^ blen y * 2 ^ d = 2 * 2 ^ (blen x - 1) := by rw [← Nat.pow_add, Nat.mul_comm 2, ← Nat.pow_succ]; congr 1; omega
  have h3 : y * 2 ^ d < 2 * x := by
   have := Nat.mul_lt_mul_of_pos_right by_ (show 0 < 2 ^ d from Nat.pow_pos (by decide))
   omega
  have h4 : y * (10 ^ t * 2) ≤ y * (2 ^ d * 100) := Nat.mul_le_mul_left _ hc
  have h5 : y * (2 ^ d * 100) = y * 2 ^ d * 100 := by rw [Nat.mul_assoc]
  have h6 : y * (10 ^ t * 2) = y * 10 ^ t * 2 := by rw [Nat.mul_assoc]
  unfold belowN
  by_cases ht : (t : Int) - 2 < 0
  ·rw [if_pos ht]
   have e3 : 100 = 10 ^ (-((t : Int) - 2)).toNat * 10 ^ t := by rw [← Nat.pow_add, show (-((t : Int) - 2)).toNat + t = 2 by omega]
   have e4 : x * 10 ^ (-((t : Int) - 2)).toNat * 10 ^ t = x * 100 := by rw [Nat.mul_assoc, ← e3]
   refine decide_eq_false (fun hlt => ?_)
   have := Nat.mul_lt_mul_of_pos_right hlt (show 0 < 10 ^ t from Nat.pow_pos (by decide))
   omega
  ·rw [if_neg ht, show ((t : Int) - 2).toNat = t - 2 by omega]
   have e3 : 10 ^ t = 10 ^ (t - 2) * 100 := by rw [show (100 : Nat) = 10 ^ 2 from rfl, ← Nat.pow_add]; congr 1; omega
   have e4 : y * 10 ^ t = y * 10 ^ (t - 2) * 100 := by rw [e3, Nat.mul_assoc]
   exact decide_eq_false (by omega)
 ·obtain ⟨d, hd⟩ : ∃ d : Nat, (blen x : Int) - blen y = -(d : Int) := ⟨((blen y : Int) - blen x).toNat, by omega⟩
  rw [hd]
  have e : (-(d : Int) * 30103).tdiv 100000 - 2 = -((d * 30103 / 100000 + 2 : Nat) : Int) := by
   have : ((d : Int) * 30103).tdiv 100000 = ((d * 30103 / 100000 : Nat) : Int) := tdiv_nat (d * 30103) 100000
   rw [Int.neg_mul, Int.neg_tdiv, this]; omega
  have hc := List.all_eq_true.1 chk_up d (List.mem_range.2 (by omega))
  rw [decide_eq_true_eq] at hc
  rw [e]
  unfold belowN
  rw [if_pos (by omega), show (- -((d * 30103 / 100000 + 2 : Nat) : Int)).toNat = d * 30103 / 100000 + 2 by omega]
  generalize d * 30103 / 100000 + 2 = t at hc
  have e2 : 2 ^ (blen x - 1) * 2 ^ (d + 1) = 2 ^ blen y := by rw [← Nat.pow_add]; congr 1; omega
  have h3 := Nat.mul_le_mul bx hc
  exact decide_eq_false (by omega)
theorem show_facts (x y : Nat) (hx0 : 0 < x) (hy0 : 0 < y) (hx : Sml x) (hy : Sml y) : ∃ (n : Int) (q : Nat), belowN x y n = false ∧ belowN x y (n + 1) = true ∧ -400 ≤ n ∧ n ≤ 350 ∧ scaledN x y (n - 16) = q ∧ 10 ^ 16 ≤ q ∧ q ≤ 10 ^ 17 ∧
  ∀ sg, showN sg x y = if q = 10 ^ 17 then putN sg (decN (10 ^ 16)) (n + 1) else putN sg (decN q) n := by
 obtain ⟨n, hn, b1, b2, n1, n2⟩ := down_found x y hx0 hy0 hx hy
 refine ⟨n, scaledN x y (n - 16), b1, b2, n1, n2, rfl, ?_⟩
 rw [below_shift x y n (n - 16) 16 (by omega)] at b1
 rw [below_shift x y (n + 1) (n - 16) 17 (by omega)] at b2
 have c1 : 10 ^ 16 * (y * upP (n - 16)) ≤ x * upQ (n - 16) := by
  have := of_decide_eq_false b1
  rw [Nat.mul_comm]; omega
 have c2 : x * upQ (n - 16) < 10 ^ 17 * (y * upP (n - 16)) := by
  have := of_decide_eq_true b2
  rw [Nat.mul_comm (10 ^ 17)]; exact this
 have hB : 0 < y * upP (n - 16) := Nat.mul_pos hy0 (upP_pos _)
 have hq := scaledN_eq x y (n - 16)
 obtain ⟨q1, q2, q3, q4⟩ := shown_bounds hB hq.symm c1 c2
 have sh := up_shift (n + 1 - 16) (n - 16) 1 (by omega)
 have hnext : scaledN x y (n - 16) = 10 ^ 17 → scaledN x y (n + 1 - 16) = 10 ^ 16 := by
  intro hqe
  rw [scaledN_eq]
  refine shown_next (A := x * upQ (n - 16)) (B := y * upP (n - 16)) (s := upQ (n - 16)) (s' := upQ (n + 1 - 16)) (Nat.mul_pos hy0 (upP_pos _)) (upQ_pos _) (upQ_pos _) (Nat.mul_right_comm _ _ _) ?_ ?_ c2
  ·rw [Nat.mul_assoc y, sh]
   generalize upP (n - 16) = a
   generalize upQ (n + 1 - 16) = b
   rw [Nat.pow_one, Nat.mul_assoc y a 10, Nat.mul_assoc y, Nat.mul_right_comm a 10 b, Nat.mul_comm 10 (a * b)]
  ·rw [hqe] at q3; exact q3
 refine ⟨q1, q2, fun sg => ?_⟩
 unfold showN
 simp only [hn]
 generalize scaledN x y (n - 16) = q at *
 have ht : tensN q = decN q := by unfold tensN; rw [Nat.mod_eq_of_lt (by omega)]
 rw [ht]
 by_cases h17 : q = 10 ^ 17
 ·rw [if_pos h17, if_pos (by rw [decN_len_eq 17 q (by omega) (by omega)]; decide), hnext h17]
  rfl
 ·rw [if_neg h17, if_neg (by rw [decN_len_eq 16 q q1 (by omega)]; decide)]
def restT (t : List UInt8) : List UInt8 := if trimRightB 48 t = [] then [48] else trimRightB 48 t
theorem trim_snoc (t : List UInt8) : trimRightB 48 (t ++ [48]) = trimRightB 48 t := by
 unfold trimRightB
 rw [List.reverse_append]; rfl
theorem trim_stop (t : List UInt8) {c : UInt8} (h : c ≠ 48) : trimRightB 48 (t ++ [c]) = t ++ [c] := by
 unfold trimRightB
 rw [List.reverse_append, List.reverse_singleton, List.singleton_append, List.dropWhile_cons, if_neg (by simpa using h)]
 simp
def rsTx (sg : List UInt8) (n : Int) (text tail : List UInt8) : Task :=
 Task.at_ 48 0 [false, false, true, true, true, true, true, true, true, true, true, true, true, true, true, true, true, true, true, true, true, true, true] (sv 147 [(3, V.d (D.s sg)), (8, V.d (D.i .i64 n)), (15, V.d (D.s text)), (16, V.d (D.s tail))]) [] []
theorem text_end (sg text tail : List UInt8) (n : Int) (h1 : sg.length ≤ 100) (h2 : 1 ≤ text.length) (h3 : text.length ≤ 100) (h4 : tail.length ≤ 100) (n1 : -1000 ≤ n) (n2 : n ≤ 1000) :
  rk Tryz.prog pol (Task.at_ 48 0 [true, false, false, false, false, true, true, true, true, true, true, true, true, true, true, true, true, true, true, true, true, true, true, true, true, true]
    (sv 147 [(3, V.d (D.s sg)), (8, V.d (D.i .i64 n)), (15, V.d (D.s text)), (16, V.d (D.s tail)), (130, V.d (D.b false))]) [] []) = some (.d (.s (sg ++ text.take 1 ++ [46] ++ tail ++ [101] ++ decI n)), []) := by
 have ht := ten_s n (by omega) (by omega)
 have hd := decI_len (n := n) (by omega) (by omega)
 rw [f16_at102760447, st_F, List.drop_zero, st_if (by omega), st_if (by rw [List.length_take]; omega), st_if (by simp; omega), st_if (by simp; omega), st_if (by simp; omega), st_S ht, st_if (by simp; omega), interp_ret]
theorem text_loop (sg text : List UInt8) (n : Int) (h1 : sg.length ≤ 100) (h2 : 1 ≤ text.length) (h3 : text.length ≤ 100) (n1 : -1000 ≤ n) (n2 : n ≤ 1000) : ∀ (k : Nat) (tail : List UInt8), tail.length = k + 1 → k ≤ 90 →
  rk Tryz.prog pol (rsTx sg n text tail) = some (.d (.s (sg ++ text.take 1 ++ [46] ++ restT tail ++ [101] ++ decI n)), [])
 | 0, tail, hl, _ => by
  obtain ⟨c, rfl⟩ : ∃ c, tail = [c] := by
   match tail, hl with
   | [c], _ => exact ⟨c, rfl⟩
  unfold rsTx
  rw [f16_at10485759, st_f (by simp), interp_call_ret, text_end sg text [c] n h1 h2 h3 (by simp) n1 n2]
  have : restT [c] = [c] := by
   unfold restT
   by_cases hc : c = 48
   ·subst hc; rfl
   ·have := trim_stop [] hc
    rw [List.nil_append] at this
    rw [this, if_neg (by simp)]
  rw [this]
 | k + 1, tail, hl, hk => by
  rcases List.eq_nil_or_concat tail with h | ⟨init, c, h⟩
  ·rw [h] at hl; simp at hl
  ·have h : tail = init ++ [c] := by simpa using h
   subst h
   have li : init.length = k + 1 := by simp at hl; omega
   have hw : IntKind.i64.wrap ((((init ++ [c]).length : Nat) : Int) - 1) = (init.length : Int) := by rw [List.length_append, List.length_singleton, wrap_i64] <;> omega
   have hg : getI (init ++ [c]) (init.length : Int) = some c := by rw [getI_nat]; simp
   unfold rsTx
   rw [f16_at10485759, st_t (by rw [hl]; omega), hw, st_ob hg, interp_call_ret, show ((c.toNat : Int) == 48) = decide (c = 48) from u8_eq c 48]
   by_cases hc : c = 48
   ·have ih := text_loop sg text n h1 h2 h3 n1 n2 k init li (by omega)
    have ht : List.take ((init.length : Int).toNat - 0) (List.drop 0 (init ++ [c])) = init := by simp
    have hr : restT (init ++ [c]) = restT init := by unfold restT; rw [hc, trim_snoc]
    rw [decide_eq_true hc, f16_at102760447, st_T, hw, st_if (by rw [hl]; omega), ht, interp_call_ret, hr]
    exact ih
   ·have hr : restT (init ++ [c]) = init ++ [c] := by
     unfold restT
     rw [trim_stop init hc, if_neg (by simp)]
    rw [decide_eq_false hc, text_end sg text _ n h1 h2 h3 (by rw [hl]; omega) n1 n2, hr]
theorem dtext_s (sg : List UInt8) (d : Nat) (n : Int) (h1 : sg.length ≤ 100) (d1 : 10 ^ 16 ≤ d) (d2 : d < 10 ^ 17) (n1 : -1000 ≤ n) (n2 : n ≤ 1000) :
  rk Tryz.prog pol (Task.at_ 48 0 [true, true, true, true, true, true, true, true, true, true, true, true, true, true, true, true, true, true, true] (sv 147 [(3, V.d (D.s sg)), (8, V.d (D.i .i64 n)), (14, V.d (D.i .u64 (d : Int)))]) [] []) = some (.d (.s (putN sg (decN d) n)), []) := by
 have hl := decN_len_eq 16 d d1 d2
 have hp := tent_s d (by omega)
 have e : List.take ((decN d).length - 1) (List.drop 1 (decN d)) = (decN d).drop 1 := by rw [List.take_of_length_le]; simp
 have hL := text_loop sg (decN d) n h1 (by omega) (by omega) n1 n2 15 ((decN d).drop 1) (by rw [List.length_drop, hl]) (by decide)
 rw [f16_at1048575, st_S hp, st_if (by omega), e, interp_call_ret]
 exact hL
theorem digits_tail (sg : List UInt8) (hsg : sg.length ≤ 100) (A B q : Nat) (n : Int) (hqn : nearN A B = q) (q1 : 10 ^ 16 ≤ q) (q2 : q ≤ 10 ^ 17) (hA : Fits (A / B)) (n1 : -400 ≤ n) (n2 : n ≤ 350) (bb : Bool) (hbb : bb = true ↔ (B < 2 * (A % B) ∨ (2 * (A % B) = B ∧ A / B % 2 = 1))) :
  rk Tryz.prog pol (Task.at_ 48 0 [true, false, true, true, true, true, true, true, true, true, true, true, true, true, true, true, true, true] (sv 147 [(3, V.d (D.s sg)), (8, V.d (D.i .i64 n)), (10, V.d (D.l (nb (A / B)) (ws (A / B)))), (104, V.d (D.b bb))]) [] []) =
   some (.d (.s (if q = 10 ^ 17 then putN sg (decN (10 ^ 16)) (n + 1) else putN sg (decN q) n)), []) := by
 have o1 : rk Tryz.prog pol (Task.call 101 [V.d (D.i .u64 1)] []) = _ := rof_ws 1 (by decide)
 have hm : q % 18446744073709551616 = q := Nat.mod_eq_of_lt (by omega)
 have w1 : IntKind.i64.wrap (n + 1) = n + 1 := by rw [wrap_i64] <;> omega
 have e1 : (q : Int).tdiv 10 = ((q / 10 : Nat) : Int) := tdiv_nat q 10
 have w2 : IntKind.u64.wrap ((q / 10 : Nat) : Int) = ((q / 10 : Nat) : Int) := by rw [u64_wrap]; omega
 have last : ∀ X : Tr, X = (brB ((q : Int) == 100000000000000000)
   (Tr.call (Task.at_ 48 0 [true, true, true, true, true, true, true, true, true, true, true, true, true, true, true, true, true, true, true] (sv 147 [(3, V.d (D.s sg)), (8, V.d (D.i .i64 (IntKind.i64.wrap (n + 1)))), (14, V.d (D.i .u64 (IntKind.u64.wrap ((q : Int).tdiv 10))))]) [] []) Tr.ret)
   (Tr.call (Task.at_ 48 0 [true, true, true, true, true, true, true, true, true, true, true, true, true, true, true, true, true, true, true] (sv 147 [(3, V.d (D.s sg)), (8, V.d (D.i .i64 n)), (14, V.d (D.i .u64 (q : Int)))]) [] []) Tr.ret)) →
   interp (rk Tryz.prog pol) X = some (.d (.s (if q = 10 ^ 17 then putN sg (decN (10 ^ 16)) (n + 1) else putN sg (decN q) n)), []) := by
  intro X hX
  rw [hX, w1, e1, w2]
  by_cases h : q = 10 ^ 17
  ·rw [st_eq (by omega), interp_call_ret, if_pos h, show q / 10 = 10 ^ 16 by omega]
   exact dtext_s sg (10 ^ 16) (n + 1) hsg (Nat.le_refl _) (by decide) (by omega) (by omega)
  ·rw [st_ne (by omega), interp_call_ret, if_neg h]
   exact dtext_s sg q n hsg q1 (by omega) (by omega) (by omega)
 rw [f16_at458751]
 unfold nearN at hqn
 cases bb with
 | true =>
  rw [if_pos (hbb.1 rfl)] at hqn
  have ha := radd_ws (nb (A / B)) (nb 1) (A / B) 1 hA fits_1
  rw [hqn] at ha
  have hl := rlow_ws (nb q) q
  rw [hm] at hl
  rw [st_T, st_L o1, st_L ha, st_I hl]
  exact last _ rfl
 | false =>
  rw [if_neg (fun h => absurd (hbb.2 h) (by decide))] at hqn
  have hl := rlow_ws (nb q) q
  rw [hm] at hl
  rw [hqn, st_F, st_I hl]
  exact last _ rfl
theorem digits_s (sg : List UInt8) (hsg : sg.length ≤ 100) (b c : Bool) (A B q : Nat) (n : Int) (hA : Fits A) (hB2 : Fits (B * 2)) (hB0 : 0 < B) (hqn : nearN A B = q) (q1 : 10 ^ 16 ≤ q) (q2 : q ≤ 10 ^ 17) (n1 : -400 ≤ n) (n2 : n ≤ 350) :
  rk Tryz.prog pol (Task.at_ 48 0 [true, true, true, true, true, true, true, true, true, true, true, true, true, true] (sv 147 [(3, V.d (D.s sg)), (6, V.d (D.l b (ws A))), (7, V.d (D.l c (ws B))), (8, V.d (D.i .i64 n))]) [] []) =
   some (.d (.s (if q = 10 ^ 17 then putN sg (decN (10 ^ 16)) (n + 1) else putN sg (decN q) n)), []) := by
 have hd := rdiv_ws b c A B hA hB2 hB0
 have hrl : A % B < B := Nat.mod_lt _ hB0
 have fB : Fits B := hB2.le (by omega)
 have fq : Fits (A / B) := hA.le (Nat.div_le_self _ _)
 have fr : Fits (A % B) := hB2.le (by omega)
 have frr : Fits (A % B + A % B) := hB2.le (by omega)
 have ha := radd_ws (nb (A % B)) (nb (A % B)) (A % B) (A % B) fr fr
 have hc := rcmp_ws (nb (A % B + A % B)) c (A % B + A % B) B frr fB
 have tail := digits_tail sg hsg A B q n hqn q1 q2 fq n1 n2
 have hle : A / B ≤ q := by rw [← hqn]; unfold nearN; split <;> omega
 have hl := rlow_ws (nb (A / B)) (A / B)
 rw [Nat.mod_eq_of_lt (show A / B < 18446744073709551616 by omega)] at hl
 have e2 : ((A / B : Nat) : Int).tmod 2 = ((A / B % 2 : Nat) : Int) := tmod_nat (A / B) 2
 rw [f16_at32767, st_LLB hd, st_L ha, st_I hc]
 unfold cmpN
 by_cases h1 : A % B + A % B < B
 ·rw [if_pos h1, st_f (by decide), st_ne (by decide), interp_call_ret]
  exact tail false ⟨fun h => absurd h (by decide), fun h => by omega⟩
 ·rw [if_neg h1]
  by_cases h2 : B < A % B + A % B
  ·rw [if_pos h2, st_t (by decide), interp_call_ret]
   exact tail true ⟨fun _ => by omega, fun _ => rfl⟩
  ·rw [if_neg h2, st_f (by decide), st_eq rfl, st_I hl, interp_call_ret, e2]
   refine tail _ ?_
   rw [beq_iff_eq]
   constructor
   ·intro h; omega
   ·intro h; omega
theorem rshow_loop (sg : List UInt8) (hsg : sg.length ≤ 100) (x y : Nat) (hx0 : 0 < x) (hy0 : 0 < y) (hx : Sml x) (hy : Sml y) (n : Int) (q : Nat) (b1 : belowN x y n = false) (b2 : belowN x y (n + 1) = true) (n1 : -400 ≤ n) (n2 : n ≤ 350) (hq : scaledN x y (n - 16) = q) (q1 : 10 ^ 16 ≤ q) (q2 : q ≤ 10 ^ 17) : ∀ (k : Nat) (b c : Bool), -600 ≤ n - (k : Int) →
  rk Tryz.prog pol (Task.at_ 48 0 [false, false, true, true, true, true, true, true, true, true, true, true, true] (sv 147 [(3, V.d (D.s sg)), (6, V.d (D.l b (ws x))), (7, V.d (D.l c (ws y))), (8, V.d (D.i .i64 (n - (k : Int))))]) [] []) =
   some (.d (.s (if q = 10 ^ 17 then putN sg (decN (10 ^ 16)) (n + 1) else putN sg (decN q) n)), [])
 | k + 1, b, c, hk => by
  have w : IntKind.i64.wrap (n - ((k + 1 : Nat) : Int) + 1) = n - (k : Int) := by rw [wrap_i64] <;> omega
  have hb : belowN x y (n - (k : Int)) = false := by
   cases h : belowN x y (n - (k : Int)) with
   | false => rfl
   | true =>
    have := below_mono (show n - (k : Int) ≤ n by omega) h
    rw [b1] at this; cases this
  have ha := above_ws b c x y hx hy (n - (k : Int)) (by omega) (by omega)
  rw [hb] at ha
  rw [f16_at10239, w, st_B ha, Bool.not_false, st_T, interp_call_ret]
  exact rshow_loop sg hsg x y hx0 hy0 hx hy n q b1 b2 n1 n2 hq q1 q2 k b c (by omega)
 | 0, b, c, hk => by
  have e0 : n - ((0 : Nat) : Int) = n := by omega
  have w : IntKind.i64.wrap (n + 1) = n + 1 := by rw [wrap_i64] <;> omega
  have w1 : IntKind.i64.wrap (16 - n) = 16 - n := by rw [wrap_i64] <;> omega
  have ha := above_ws b c x y hx hy (n + 1) (by omega) (by omega)
  rw [b2] at ha
  rw [scaledN_eq] at hq
  rw [e0, f16_at10239, w, w1, st_B ha, Bool.not_true, st_F]
  by_cases h : 16 - n ≥ 0
  ·have ht := rten_ws (16 - n).toNat (by omega)
   rw [show (((16 - n).toNat : Nat) : Int) = 16 - n by omega] at ht
   have hm := rmul_ws b (tb (16 - n).toNat) x (10 ^ (16 - n).toNat) hx.mid.fits (mid_lt (pow10_lt (by omega))).fits
   have hp : upP (n - 16) = 1 := by unfold upP; rw [show (n - 16).toNat = 0 by omega, Nat.pow_zero]
   have hqq : upQ (n - 16) = 10 ^ (16 - n).toNat := by unfold upQ; rw [show (-(n - 16)).toNat = (16 - n).toNat by omega]
   rw [hp, hqq, Nat.mul_one] at hq
   rw [st_t h, st_L ht, st_L hm, interp_call_ret]
   exact digits_s sg hsg _ c _ y q n (hx.mul (by omega)).fits hy.mid.fits2 hy0 hq q1 q2 n1 n2
  ·have w2 : IntKind.i64.wrap (0 - (16 - n)) = (((n - 16).toNat : Nat) : Int) := by rw [wrap_i64] <;> omega
   have ht := rten_ws (n - 16).toNat (by omega)
   have hm := rmul_ws c (tb (n - 16).toNat) y (10 ^ (n - 16).toNat) hy.mid.fits (mid_lt (pow10_lt (by omega))).fits
   have hp : upP (n - 16) = 10 ^ (n - 16).toNat := rfl
   have hqq : upQ (n - 16) = 1 := by unfold upQ; rw [show (-(n - 16)).toNat = 0 by omega, Nat.pow_zero]
   rw [hp, hqq, Nat.mul_one] at hq
   rw [st_f h, w2, st_L ht, st_L hm, interp_call_ret]
   exact digits_s sg hsg b _ x _ q n hx.mid.fits (hy.mul (by omega)).fits2 (Nat.mul_pos hy0 (Nat.pow_pos (by decide))) hq q1 q2 n1 n2
theorem rshow_rat (sg : List UInt8) (hsg : sg.length ≤ 100) (x y : Nat) (hx0 : 0 < x) (hy0 : 0 < y) (hx : Sml x) (hy : Sml y) (b c : Bool) :
  rk Tryz.prog pol (Task.at_ 48 0 [true, true, true, true, true, true, true, true, true, true] (sv 147 [(3, V.d (D.s sg)), (6, V.d (D.l b (ws x))), (7, V.d (D.l c (ws y)))]) [] []) = some (.d (.s (showN sg x y)), []) := by
 have h1 := rbits_ws b x hx.mid.fits
 have h2 := rbits_ws c y hy.mid.fits
 have l1 := hx.blen
 have l2 := hy.blen
 have hb := tdiv_bounds ((blen x : Int) - blen y) (by omega) (by omega)
 have hlow := start_low x y hx0 hx hy
 obtain ⟨n, q, b1, b2, n1, n2, hq, q1, q2, hs⟩ := show_facts x y hx0 hy0 hx hy
 have v1 : IntKind.i64.wrap ((blen x : Int) - blen y) = (blen x : Int) - blen y := by rw [wrap_i64] <;> omega
 have v2 : IntKind.i64.wrap (((blen x : Int) - blen y) * 30103) = ((blen x : Int) - blen y) * 30103 := by rw [wrap_i64] <;> omega
 rw [f16_at2047, st_I h1, st_I h2, v1, v2, interp_call_ret, hs sg]
 generalize (((blen x : Int) - blen y) * 30103).tdiv 100000 = z at *
 have v3 : IntKind.i64.wrap z = z := by rw [wrap_i64] <;> omega
 have v4 : IntKind.i64.wrap (z - 2) = z - 2 := by rw [wrap_i64] <;> omega
 have hle : z - 2 ≤ n := by
  rcases Int.lt_or_le n (z - 2) with h | h
  ·have := below_mono (show n + 1 ≤ z - 2 by omega) b2
   rw [hlow] at this; cases this
  ·exact h
 have hL := rshow_loop sg hsg x y hx0 hy0 hx hy n q b1 b2 n1 n2 hq q1 q2 (n - (z - 2)).toNat b c (by omega)
 rw [show n - (((n - (z - 2)).toNat : Nat) : Int) = z - 2 by omega] at hL
 rw [v3, v4]
 exact hL
theorem rshow_s (b : Nat) (hb : b < 18446744073709551616) : rk Tryz.prog pol (Task.call 48 [V.d (D.i .u64 (b : Int))] []) = some (.d (.s (showB b)), []) := by
 have h0 : (b : Int).fdiv 9223372036854775808 = ((b / 2 ^ 63 : Nat) : Int) := fdiv_nat b 9223372036854775808
 have h1 : (b : Int).fdiv 4503599627370496 = ((b / 2 ^ 52 : Nat) : Int) := fdiv_nat b 4503599627370496
 have h2 : (BitVec.ofInt IntKind.u64.bits ((b / 2 ^ 52 : Nat) : Int) &&& BitVec.ofInt IntKind.u64.bits 2047).toNat = b / 2 ^ 52 % 2048 :=
  and_mod (b := b / 2 ^ 52) (k := 11) (by omega) 2047 (by decide)
 have w1 : IntKind.u64.wrap ((b / 2 ^ 52 % 2048 : Nat) : Int) = ((b / 2 ^ 52 % 2048 : Nat) : Int) := by rw [u64_wrap]; omega
 have w1' : IntKind.i64.wrap ((b / 2 ^ 52 % 2048 : Nat) : Int) = ((b / 2 ^ 52 % 2048 : Nat) : Int) := by rw [wrap_i64] <;> omega
 have h3 : (BitVec.ofInt IntKind.u64.bits (b : Int) &&& BitVec.ofInt IntKind.u64.bits 4503599627370495).toNat = b % 2 ^ 52 := and_mod (b := b) (k := 52) hb 4503599627370495 (by decide)
 have w3 : IntKind.u64.wrap ((b % 2 ^ 52 : Nat) : Int) = ((b % 2 ^ 52 : Nat) : Int) := by rw [u64_wrap]; omega
 -- behind the sign
 have main : ∀ sg : List UInt8, sg.length ≤ 1 → (if 2 ^ 63 ≤ b then [45] else ([] : List UInt8)) = sg →
   rk Tryz.prog pol (Task.at_ 48 0 [true, true, true] (sv 147 [(0, V.d (D.i .u64 (b : Int))), (3, V.d (D.s sg))]) [] []) = some (.d (.s (showB b)), []) := by
  intro sg hsl hsg
  rw [f16_at15, h1, h2, w1, w1', h3, w3]
  unfold showB
  rw [hsg]
  by_cases hk : b / 2 ^ 52 % 2048 = 2047
  ·rw [st_eq (by omega), interp_ret, if_pos hk]
  ·rw [st_ne (by omega), if_neg hk]
   simp only
   -- from the exponent and the rest on
   have go : ∀ (e m : Nat), (ratN (b % 2 ^ 63)) = (if (e : Int) - 1075 < 0 then (m, 2 ^ (-((e : Int) - 1075)).toNat) else (m * 2 ^ ((e : Int) - 1075).toNat, 1)) → e ≤ 2046 → m < 2 ^ 53 → b % 2 ^ 63 ≠ 0 →
     rk Tryz.prog pol (Task.at_ 48 0 [true, true, true, true, true, true, true, true] (sv 147 [(3, V.d (D.s sg)), (4, V.d (D.i .i64 (e : Int))), (5, V.d (D.i .u64 (m : Int)))]) [] []) = some (.d (.s (showN sg (ratN (b % 2 ^ 63)).1 (ratN (b % 2 ^ 63)).2)), []) := by
    intro e m hr he hm hne
    have ho := rof_ws m (by omega)
    obtain ⟨s1, s2, s3⟩ := ratN_sml (b % 2 ^ 63) (by omega) (by omega)
    have s0 := ratN_pos (b % 2 ^ 63) hne
    rw [f16_at511, st_L ho]
    by_cases h : (e : Int) ≥ 1075
    ·have wE : IntKind.i64.wrap ((e : Int) - 1075) = ((e - 1075 : Nat) : Int) := by rw [wrap_i64] <;> omega
     have hsh := rshl_ws (nb m) m (e - 1075) (mid_u64 (by omega)).fits (by omega)
     rw [if_neg (by omega), show ((e : Int) - 1075).toNat = e - 1075 by omega] at hr
     rw [hr] at s0 s1 s2 s3 ⊢
     have := rshow_rat sg (by omega) _ 1 s0 (by decide) s1 s2 (nb (m * 2 ^ (e - 1075))) true
     rw [ws_one] at this
     rw [st_t h, wE, st_L hsh, interp_call_ret]
     exact this
    ·have wE : IntKind.i64.wrap (1075 - (e : Int)) = ((1075 - e : Nat) : Int) := by rw [wrap_i64] <;> omega
     have hsh := rshl_ws true 1 (1075 - e) fits_one (by omega)
     rw [ws_one, Nat.one_mul] at hsh
     rw [if_pos (by omega), show (-((e : Int) - 1075)).toNat = 1075 - e by omega] at hr
     rw [hr] at s0 s1 s2 s3 ⊢
     have := rshow_rat sg (by omega) m _ s0 s3 s1 s2 (nb m) (nb (2 ^ (1075 - e)))
     rw [st_f h, wE, st_L hsh, interp_call_ret]
     exact this
   have hcd : b % 2 ^ 63 / 2 ^ 52 = b / 2 ^ 52 % 2048 := by omega
   have hcm : b % 2 ^ 63 % 2 ^ 52 = b % 2 ^ 52 := by omega
   by_cases he : b / 2 ^ 52 % 2048 = 0
   ·rw [st_eq (by omega), interp_call_ret, f16_at447]
    by_cases hm : b % 2 ^ 52 = 0
    ·have hz : b % 2 ^ 63 = 0 := by omega
     rw [if_pos hz, st_bt (by rw [beq_iff_eq]; omega), st_if (by omega), interp_ret]
    ·have hz : b % 2 ^ 63 ≠ 0 := by omega
     rw [if_neg hz, st_bf (by rw [beq_eq_false_iff_ne]; omega), st_eq (by omega), interp_call_ret]
     refine go 1 (b % 2 ^ 52) ?_ (by decide) (by omega) hz
     unfold ratN
     simp only [hcd, hcm, if_pos he]
     rfl
   ·have hz : b % 2 ^ 63 ≠ 0 := by omega
    have hor : (BitVec.ofInt IntKind.u64.bits ((b % 2 ^ 52 : Nat) : Int) ||| BitVec.ofInt IntKind.u64.bits 4503599627370496).toNat = b % 2 ^ 52 + 2 ^ 52 := by
     have := or_nat (a := b % 2 ^ 52) (b := 4503599627370496) (by omega) (by decide)
     have e := or_add (c := b % 2 ^ 52) (a := 1) (k := 52) (Nat.mod_lt _ (by decide))
     rw [Nat.one_mul] at e
     exact Eq.trans this e
    have w5 : IntKind.u64.wrap ((b % 2 ^ 52 + 2 ^ 52 : Nat) : Int) = ((b % 2 ^ 52 + 2 ^ 52 : Nat) : Int) := by rw [u64_wrap]; omega
    rw [st_ne (by omega), interp_call_ret, f16_at447, st_F, st_ne (by omega), hor, w5, interp_call_ret, if_neg hz]
    refine go (b / 2 ^ 52 % 2048) (b % 2 ^ 52 + 2 ^ 52) ?_ (by omega) (by omega) hz
    unfold ratN
    simp only [hcd, hcm, if_neg he]
    have e1 : (-1074 : Int) + (((b / 2 ^ 52 % 2048 : Nat) : Int) - 1) = ((b / 2 ^ 52 % 2048 : Nat) : Int) - 1075 := by omega
    rw [e1]
 rw [f16, h0]
 by_cases ht : 2 ^ 63 ≤ b
 ·rw [st_eq (by omega), interp_call_ret]
  exact main [45] (by decide) (if_pos ht)
 ·rw [st_ne (by omega), interp_call_ret]
  exact main [] (by decide) (if_neg ht)
end Go.Dn.Dec
namespace Go.Dn.Dec
open Go.Proofs
set_option linter.unusedVariables false
set_option maxRecDepth 100000
set_option linter.unusedSimpArgs false
theorem show_goodY {args : List V} {S : List Ob} {o : Out} {k : Nat} (hk : k = 50 ∨ k = 48) (h : showExtY args S = some o) : GoodCall Tryz.prog k args S o := by
 unfold showExtY at h
 split at h
 ·rename_i n
  split at h
  ·rename_i hc
   injection h with h; subst h
   have h1 := show_s n.toNat (by omega)
   have h2 := rshow_s n.toNat (by omega)
   rw [Int.toNat_of_nonneg hc.1] at h1 h2
   rcases hk with rfl | rfl
   ·exact run_good mixed extOk hname (rk_run h1)
   ·exact run_good mixed extOk hname (rk_run h2)
  ·cases h
 ·cases h
theorem ten_goodY {args : List V} {S : List Ob} {o : Out} (h : tenExtY args S = some o) : GoodCall Tryz.prog 47 args S o := by
 unfold tenExtY at h
 split at h
 ·rename_i n
  split at h
  ·rename_i hc
   injection h with h; subst h
   exact run_good mixed extOk hname (rk_run (ten_s n hc.1 hc.2))
  ·cases h
 ·cases h
theorem extOkY : ExtOk Tryz.prog polY := by
 intro k g hg args S o ho
 simp only [polY, extY] at hg
 split at hg
 ·injection hg with hg; subst hg; exact copy_good ho
 ·injection hg with hg; subst hg; exact str_good ho
 ·injection hg with hg; subst hg; exact fmtInt_good ho
 ·injection hg with hg; subst hg; exact join_good ho
 ·injection hg with hg; subst hg; exact show_goodY (.inl rfl) ho
 ·injection hg with hg; subst hg; exact show_goodY (.inr rfl) ho
 ·injection hg with hg; subst hg; exact ten_goodY ho
 ·exact extOk k g hg args S o ho
theorem goodY : GoodF Tryz.prog (run Tryz.prog polY) := fun k args S o h => run_good mixed extOkY hname h
theorem goodP : GoodF Tryz.prog (run Tryz.prog pol) := fun k args S o h => run_good mixed extOk hname h
theorem extOkW : ExtOk Tryz.prog polW := by
 intro k g hg args S o ho
 simp only [polW, extW] at hg
 split at hg
 ·cases hg
 ·split at hg
  ·injection hg with hg; subst hg; exact goodP k args S o ho
  ·injection hg with hg; subst hg; exact upExt_good goodY ho
theorem ext_callW {k : Nat} {g : List V → List Ob → Option Out} (h : polW.ext k = some g) (args : List V) (S : List Ob) : rk Tryz.prog polW (Task.call k args S) = g args S := by
 rw [rk_eq]
 unfold stepK
 simp only [h]
 rw [interp_ob']
 cases g args S with
 | none => rfl
 | some o => rfl
theorem extW_up {k : Nat} (h1 : ¬ k < 9) (h2 : isTok k = false) : polW.ext k = some (upExt Tryz.prog polY k) := by
 simp only [polW, extW, if_neg h1, h2]; rfl
theorem wcall {k : Nat} {args : List V} {o : Out} (h : RY (Task.call k args []) = some o) (h1 : ¬ k < 9) (h2 : isTok k = false) : rk Tryz.prog polW (Task.call k args []) = some o := by
 rw [ext_callW (extW_up h1 h2)]
 have := rk_run h
 unfold upExt
 split
 ·rename_i heq; cases heq
 ·exact this
theorem wcall1 {k : Nat} {args : List V} {b : Ob} {o : Out} (h : RY (Task.call k args [b]) = some o) (h1 : ¬ k < 9) (h2 : isTok k = false) : rk Tryz.prog polW (Task.call k args [b]) = some o := by
 rw [ext_callW (extW_up h1 h2)]
 have := rk_run h
 unfold upExt
 split
 ·rename_i heq; simp at heq
 ·exact this
theorem wcall2 {k : Nat} {ar cs cs' : List V} {v : V} {x : Ob} (h : RY (Task.call k (V.p 0 0 :: ar) [Ob.cells cs []]) = some (v, [Ob.cells cs' []])) (ha : refsLts 0 ar = true) (hc : refsLts 0 cs = true) (hc' : refsLts 0 cs' = true) (hv : refsLt 0 v = true) (h1 : ¬ k < 9) (h2 : isTok k = false) :
  rk Tryz.prog polW (Task.call k (V.p 1 0 :: ar) [Ob.cells cs [], x]) = some (v, [Ob.cells cs' [], x]) := by
 rw [ext_callW (extW_up h1 h2)]
 exact upExt_eq (rk_run h) ha hc hc' hv
theorem made_s (zs : List Int) : RY (Task.call 10 [V.d (D.l false (ints .u8 zs))] []) = some (.p 0 0, [pk zs 0]) := by
 have : ∀ l : List D, rk Tryz.prog polY (Task.call 10 [V.d (D.l false l)] []) = interp (rk Tryz.prog polY) (Tr.ret (V.p 0 0, [Ob.cells [V.d (D.l false l), V.d (D.i .i64 0)] []])) := fun l => rk_of (by kernel_rfl)
 rw [RY, this]; rfl
theorem begun9 : rk Tryz.prog polW (Task.call 9 [] []) = some (.d (.b true), []) := by
 rw [ext_callW (extW_up (by decide) (by decide))]
 show run Tryz.prog polY (.call 9 [] []) = _
 exact run_some.2 ⟨200, by kernel_rfl⟩
theorem st_P {f : Task → Option Out} {t : Task} {cs : List V} {K : List V → Tr} (h : f t = some (.p 0 0, [.cells cs []])) (hc : refsLts 0 cs = true) : interp f (.call t fun o => asP o fun l => K l) = interp f (K cs) := by
 rw [st_call h]
 show interp f (ift (refsLts 0 cs) (K cs)) = _
 rw [hc, st_ift]
theorem mfile_ne {x : D} (h : MFile x) : prFi x ≠ [] := by
 obtain ⟨il, sl, b, l, rfl, h1, h2, h3, h4⟩ := h
 cases l with
 | nil => simp at h2
 | cons y l =>
  obtain ⟨kd, nm, ty, ck, cn, cu, cs, cb, cl, fb, fl, mb, ml, ex, tb, tl, rfl, _⟩ := h4 y (by simp)
  simp only [prFi, List.map_cons, List.flatten_cons]
  intro e
  have := congrArg List.length e
  simp only [List.length_append, List.length_nil] at this
  have hd : 0 < (prD (dD kd nm ty ck cn cu cs cb cl fb fl mb ml ex tb tl)).length := by
   simp only [prD]
   repeat' split
   all_goals simp only [List.length_append, List.length_cons, List.length_nil]; omega
  simp only [dD] at hd
  omega
theorem so_L2 {f : Task → Option Out} {t : Task} {b : Bool} {l : List D} {cs ds : List V} {m n : Nat} {K : List V → List V → Bool → List D → Tr} (h : f t = some (.d (.l b l), [.cells cs [], .cells ds []])) (hm : cs.length = m) (hn : ds.length = n) :
  interp f (.call t fun o => unCons o.snd fun x l2 => unCells x fun c g => ift (c.length == m) (ift (g == []) (unCons l2 fun x5 l6 => unCells x5 fun c7 g8 => ift (c7.length == n) (ift (g8 == []) (unNil l6 (asD o.fst fun d => asL d fun y z => K c c7 y z)))))) = interp f (K cs ds b l) := by
 rw [st_call h]
 show interp f (ift (cs.length == m) (ift true (ift (ds.length == n) (ift true (K cs ds b l))))) = _
 rw [hm, beq_self_eq_true, st_ift, st_ift, hn, beq_self_eq_true, st_ift, st_ift]
theorem pk_of {zs : List Int} (h : ∀ z ∈ zs, 0 ≤ z ∧ z < 256) (hl : zs.length ≤ 150) : Pk zs 0 := ⟨h, by omega, by omega⟩
theorem printAll27 (zs ms : List Int) (hz : ∀ z ∈ zs, 0 ≤ z ∧ z < 256) (hm : ∀ z ∈ ms, 0 ≤ z ∧ z < 256) (lz : zs.length ≤ 150) (lm : ms.length ≤ 150) :
  rk Tryz.prog polW (Task.at_ 3 0 [true, false, true, true] (sv 58 [(0, V.d (D.l false (ints .u8 zs))), (1, V.d (D.l false (ints .u8 ms))), (16, V.d (D.b false))]) [] []) = some (.d (.b true), []) := by
 obtain ⟨x, r, n1, hx, _, _, h1, e1⟩ := files_s (pk_of hz lz)
 obtain ⟨y, q, n2, hy, _, _, h2, e2⟩ := files_s (pk_of hm lm)
 have wx := mfile_w hx
 have wy := mfile_w hy
 have lx : (prFi x).length ≤ 900000 := Nat.le_trans (mfile_len hx) (by omega)
 have p1 := wcall (pfile_s x wx (mfile_ne hx) lx) (by decide) (by decide)
 have p2 := wcall (rfile_s x wx lx) (by decide) (by decide)
 have p3 := wcall (pfile_same x y wx wy) (by decide) (by decide)
 have p4 := wcall (rfile_same x y wx wy) (by decide) (by decide)
 have p5 := wcall (pfile_same x x wx wx) (by decide) (by decide)
 have m1 := wcall (made_s zs) (by decide) (by decide)
 have m2 := wcall (made_s ms) (by decide) (by decide)
 have f1 := wcall1 e1 (by decide) (by decide)
 have f2 := wcall2 (x := pk zs n1) e2 rfl rfl rfl rfl (by decide) (by decide)
 have gx : (x :: r)[0]? = some x := rfl
 have gy : (y :: q)[0]? = some y := rfl
 have wdx : x.width = 3 := by obtain ⟨_, _, _, _, rfl, _⟩ := hx; rfl
 have wdy : y.width = 3 := by obtain ⟨_, _, _, _, rfl, _⟩ := hy; rfl
 rw [w3_at27, st_F]
 refine (st_P m1 rfl).trans ?_
 refine (so_L (m := 2) (fl' := []) f1 rfl rfl).trans ?_
 refine (st_P m2 rfl).trans ?_
 refine (so_L2 f2 rfl rfl).trans ?_
 have hself := wx.self
 obtain ⟨_, _, _, _, rfl, _⟩ := hx
 obtain ⟨_, _, _, _, rfl, _⟩ := hy
 refine (y_el (i := 0) gx rfl).trans ?_
 refine (st_S p1).trans ?_
 refine (y_el (i := 0) gx rfl).trans ?_
 refine (st_S p2).trans ?_
 refine (st_bt (beq_self_eq_true _)).trans ?_
 refine (y_el (i := 0) gx rfl).trans ?_
 refine (y_el (i := 0) gy rfl).trans ?_
 refine (st_B p3).trans ?_
 refine (y_el (i := 0) gx rfl).trans ?_
 refine (y_el (i := 0) gy rfl).trans ?_
 refine (st_B p4).trans ?_
 refine (st_bt (beq_self_eq_true _)).trans ?_
 refine (y_el (i := 0) gx rfl).trans ?_
 refine (y_el (i := 0) gx rfl).trans ?_
 refine (st_B p5).trans ?_
 rw [hself]; rfl
theorem printAll_s (zs ms : List Int) (hz : ∀ z ∈ zs, 0 ≤ z ∧ z < 256) (hm : ∀ z ∈ ms, 0 ≤ z ∧ z < 256) :
  rk Tryz.prog polW (Task.call 3 [V.d (D.l false (ints .u8 zs)), V.d (D.l false (ints .u8 ms))] []) = some (.d (.b true), []) := by
 have e1 : (ints .u8 zs).length = zs.length := ints_length _ _
 have e2 : (ints .u8 ms).length = ms.length := ints_length _ _
 have t : rk Tryz.prog polW (Task.at_ 3 0 [true, false, true, true] (sv 58 [(0, V.d (D.l false (ints .u8 zs))), (1, V.d (D.l false (ints .u8 ms))), (16, V.d (D.b true))]) [] []) = some (.d (.b true), []) := by
  rw [w3_at27, st_T]; rfl
 rw [y3, st_B begun9, st_nt]
 by_cases h1 : 150 < zs.length
 ·rw [st_t (by omega)]; exact st_ret t
 ·rw [st_f (by omega)]
  by_cases h2 : 150 < ms.length
  ·rw [decide_eq_true (show ((ints .u8 ms).length : Int) > 150 by omega)]
   exact st_ret t
  ·rw [decide_eq_false (show ¬ ((ints .u8 ms).length : Int) > 150 by omega)]
   exact st_ret (printAll27 zs ms hz hm (by omega) (by omega))
end Go.Dn.Dec
