/- print: constants' texts; the document's. -/
import Derived.Test.YtbjllhjbhdjfjaaGreatDoorP6
import Derived.Test.YtbjllhjbhdjfjaaGreatDoorP4
import Derived.KernelRfl
import Derived.Test.YtbjllhjbhdjfjaaGreatDoorP5
namespace Go.Dn.Dec
open Go.Proofs
set_option linter.unusedVariables false
set_option linter.unusedSimpArgs false
noncomputable abbrev RY (t : Task) : Option Out := rk Tryz.prog polY t
theorem ext_callY {k : Nat} {g : List V → List Ob → Option Out} (h : polY.ext k = some g) (args : List V) (S : List Ob) : RY (Task.call k args S) = g args S := by
 unfold RY
 rw [rk_eq]
 unfold stepK
 simp only [h]
 rw [interp_ob']
 cases g args S with
 | none => rfl
 | some o => rfl
theorem y_el {f : Task → Option Out} {l : List D} {i : Nat} {x : D} {w : Nat} (h : l[i]? = some x) (hw : x.width = w) {K : D → Tr} :
  interp f (ob (getI l (i : Int)) fun d => ift (d.width == w) (ob l[((i : Int)).toNat]? fun d1 => ift (decide (w ≤ d1.width)) (K d1))) = interp f (K x) := by
 subst hw
 rw [getI_nat, st_ob h, beq_self_eq_true, st_ift, Int.toNat_natCast, st_ob h, st_if (Nat.le_refl _)]
theorem getS {α : Type} (p : List α) (x : α) (r : List α) : (p ++ x :: r)[p.length]? = some x := by simp
theorem prCs_eq : ∀ l : List D, prCs l = l.map prC
 | [] => by simp only [prCs, List.map_nil]
 | a :: l => by simp only [prCs, List.map_cons, prCs_eq l]
theorem findSub_one (c : UInt8) : ∀ s : List UInt8, (findSub [c] s).isSome = s.contains c
 | [] => by simp [findSub]
 | a :: s => by
  unfold findSub
  by_cases h : c = a
  ·subst h; simp
  ·have : (List.isPrefixOf [c] (a :: s)) = false := by simp [List.isPrefixOf, h]
   rw [this, if_neg (by decide), Option.isSome_map, findSub_one c s]
   simp [h]
theorem unStrs_map (l : List (List UInt8)) : unStrs (l.map .s) = some l := by
 induction l with
 | nil => rfl
 | cons a l ih => simp only [List.map_cons, unStrs, ih, Option.map_some]
theorem flat_mem {l : List (List UInt8)} {x : List UInt8} (h : x ∈ l) : x.length ≤ l.flatten.length := by
 induction l with
 | nil => simp at h
 | cons a l ih =>
  rw [List.flatten_cons, List.length_append]
  simp only [List.mem_cons] at h
  rcases h with rfl | h
  ·omega
  ·have := ih h; omega
theorem join_mem {l : List (List UInt8)} {x sep : List UInt8} (h : x ∈ l) : x.length ≤ (Lib.join l sep).length := by
 cases l with
 | nil => simp at h
 | cons a l =>
  rw [Lib.join_cons, List.length_append]
  simp only [List.mem_cons] at h
  rcases h with rfl | h
  ·omega
  ·have : (sep ++ x).length ≤ (Lib.joinTail sep l).length := flat_mem (List.mem_map.2 ⟨x, h, rfl⟩)
   rw [List.length_append] at this; omega
theorem pairs_mem {B : Nat} : ∀ {l : List (List UInt8)}, l.length % 2 = 0 → (∀ y ∈ pairsB l, y.length ≤ B) → ∀ x ∈ l, x.length ≤ B
 | [], _, _, x, hx => by simp at hx
 | [a], h, _, _, _ => by simp at h
 | a :: b :: r, h, hp, x, hx => by
  have h0 := hp (a ++ [58, 32] ++ b) (by simp [pairsB])
  simp only [List.length_append] at h0
  simp only [List.mem_cons] at hx
  rcases hx with rfl | rfl | hx
  ·omega
  ·omega
  ·exact pairs_mem (l := r) (by simp only [List.length_cons] at h; omega) (fun y hy => hp y (by simp [pairsB, hy])) x hx
theorem parts_le {k n u : Int} {s : List UInt8} {b : Bool} {l : List D} (hk : k ≠ 0) (hp : k = 0 ∨ (1 ≤ k ∧ k ≤ 5) ∨ l.length % 2 = 0) (h5 : ¬ (k = 1 ∨ k = 2 ∨ k = 3 ∨ k = 4)) (hl : (prC (cD k n u s b l)).length ≤ 900000) : ∀ y ∈ l, (prC y).length ≤ 900000 := by
 intro y hy
 simp only [cD, prC] at hl
 rw [if_neg (by omega), if_neg (by omega), if_neg (by omega), if_neg (by omega)] at hl
 have hm : prC y ∈ prCs l := by rw [prCs_eq]; exact List.mem_map.2 ⟨y, hy, rfl⟩
 split at hl
 ·have := join_mem (sep := [44, 32]) hm
  simp only [List.length_append] at hl; omega
 ·rename_i h
  refine pairs_mem (l := prCs l) (B := 900000) (by rw [prCs_eq, List.length_map]; omega) (fun z hz => ?_) _ hm
  have := join_mem (sep := [44, 32]) hz
  simp only [List.length_append] at hl; omega
theorem ptext_s (s : List UInt8) (hs : s.length ≤ 2000) : RY (Task.call 28 [V.d (D.s s)] []) = some (.d (.s (quoteB s)), []) := by
 have h : RY (Task.call 57 [V.d (D.s s), V.d (D.s [34])] []) = some (.d (.b (s.contains 34)), []) := by
  rw [ext_callY (g := containsExt) rfl]
  simp only [containsExt, if_pos (show s.length ≤ 100000 ∧ ([34] : List UInt8).length ≤ 100000 from ⟨by omega, by decide⟩), findSub_one]
 rw [RY, y28, st_B h]
 unfold quoteB
 by_cases hc : s.contains 34 = true
 ·rw [st_bt hc, if_pos hc, st_if (by omega), st_if (by simp; omega)]; rfl
 ·rw [st_bf (by simpa using hc), if_neg hc, st_if (by omega), st_if (by simp; omega)]; rfl
theorem wc_width {d : Nat} {x : D} (h : WC d x) : x.width = 5 := by
 cases d with
 | zero => exact h.elim
 | succ d => obtain ⟨_, _, _, _, _, _, rfl, _⟩ := h; rfl
def ConOk (k d : Nat) : Prop := ∀ x, WC d x → Kn x → (prC x).length ≤ 900000 → RY (Task.call k [V.d x] []) = some (.d (.s (prC x)), [])
theorem head1 (l : List (List UInt8)) : headOk 1 (l.map D.s) = true := by cases l <;> rfl
theorem consts_loop {d : Nat} (hC : ConOk 23 d) : ∀ (r p : List D) (b b2 : Bool), (∀ y ∈ r, WC d y ∧ Kn y ∧ (prC y).length ≤ 900000) → (p ++ r).length ≤ 100 →
  ∃ b', RY (Task.at_ 52 0 [false, true, false, true, true] (sv 19 [(3, V.d (D.l b ((p.map prC).map D.s))), (6, V.d (D.l b2 (p ++ r))), (7, V.d (D.i IntKind.i64 ((p ++ r).length : Int))), (8, V.d (D.i IntKind.i64 (p.length : Int)))]) [(3, 1)] []) = some (.d (.l b' (((p ++ r).map prC).map D.s)), [])
 | [], p, b, b2, _, hl => by
  refine ⟨b, ?_⟩
  rw [List.append_nil, RY, y52_at43, st_f (by omega)]; rfl
 | x :: r, p, b, b2, h, hl => by
  obtain ⟨h1, h2, h3⟩ := h x (by simp)
  have hc := hC x h1 h2 h3
  obtain ⟨b', ih⟩ := consts_loop hC r (p ++ [x]) (b && false) b2 (fun y hy => h y (by simp [hy])) (by simpa using hl)
  refine ⟨b', ?_⟩
  have hlen : (p ++ x :: r).length = p.length + (r.length + 1) := by simp
  have w1 : IntKind.i64.wrap ((p.length : Int) + 1) = ((p.length + 1 : Nat) : Int) := by rw [wrap_i64] <;> omega
  rw [RY, y52_at43, st_t (by omega)]
  refine (y_el (getS p x r) (wc_width h1)).trans ?_
  cases d with
  | zero => exact h1.elim
  | succ d =>
   obtain ⟨k, n, u, s, bb, l, rfl, _⟩ := h1
   refine st_ift.trans ?_
   refine (st_S hc).trans ?_
   rw [head1, st_ift, Bool.or_true, st_ift, st_if (by simp; omega), w1]
   rw [List.append_assoc, List.singleton_append, show (p ++ [cD k n u s bb l]).length = p.length + 1 by simp, List.map_append, List.map_append] at ih
   exact st_ret ih
theorem consts_s {d : Nat} (hC : ConOk 23 d) (b : Bool) (l : List D) (h : ∀ y ∈ l, WC d y ∧ Kn y ∧ (prC y).length ≤ 900000) (hl : l.length ≤ 100) : ∃ b', RY (Task.call 52 [V.d (D.l b l)] []) = some (.d (.l b' ((prCs l).map D.s)), []) := by
 obtain ⟨b', h'⟩ := consts_loop hC l [] true b h (by simpa using hl)
 refine ⟨b', ?_⟩
 rw [RY, y52, prCs_eq]
 exact st_ret h'
theorem joinY (b : Bool) (l : List (List UInt8)) (t : List UInt8) (hl : l.length ≤ 100000) (ht : (Lib.join l t).length ≤ 1000000) : RY (Task.call 51 [V.d (D.l b (l.map D.s)), V.d (D.s t)] []) = some (.d (.s (Lib.join l t)), []) := by
 rw [ext_callY (g := joinExt) rfl]
 simp only [joinExt, unStrs_map, if_pos (show l.length ≤ 100000 ∧ (Lib.join l t).length ≤ 1000000 from ⟨hl, ht⟩)]
theorem pairs_loop (l : List (List UInt8)) (hl : l.length ≤ 1000) (hb : ∀ y ∈ l, y.length ≤ 900000) (hj : (Lib.join (pairsB l) [44, 32]).length ≤ 900000) (b2 : Bool) : ∀ (r p : List (List UInt8)) (o : List (List UInt8)) (b : Bool), p ++ r = l → p.length % 2 = 0 → o ++ pairsB r = pairsB l → o.length ≤ p.length →
  RY (Task.at_ 23 0 [false, true, false, true, true, true, true] (sv 63 [(3, V.d (D.l b (o.map D.s))), (4, V.d (D.l b2 (l.map D.s))), (5, V.d (D.i IntKind.i64 (p.length : Int)))]) [(3, 1)] []) = some (.d (.s ([123] ++ Lib.join (pairsB l) [44, 32] ++ [125])), [])
 | x :: y :: r, p, o, b, e, hp, ho, hop => by
  have hlen : l.length = p.length + (r.length + 2) := by rw [← e]; simp
  have hx := hb x (by rw [← e]; simp)
  have hy := hb y (by rw [← e]; simp)
  have w1 : IntKind.i64.wrap ((p.length : Int) + 1) = ((p.length + 1 : Nat) : Int) := by rw [wrap_i64] <;> omega
  have w2 : IntKind.i64.wrap ((p.length : Int) + 2) = ((p.length + 2 : Nat) : Int) := by rw [wrap_i64] <;> omega
  have g1 : (l.map D.s)[p.length]? = some (.s x) := by rw [← e]; simp
  have g2 : (l.map D.s)[p.length + 1]? = some (.s y) := by rw [← e]; simp
  have ih := pairs_loop l hl hb hj b2 r (p ++ [x, y]) (o ++ [x ++ [58, 32] ++ y]) (b && false) (by rw [← e]; simp) (by simp; omega) (by rw [← ho]; simp [pairsB]) (by simp; omega)
  rw [List.length_append, List.length_cons, List.length_cons, List.length_nil, List.map_append] at ih
  rw [RY, y23_at175, w1, st_t (by rw [List.length_map]; omega), yl_S g1, st_if (by omega), yl_S g2, st_if (by simp; omega), head1, st_ift, Bool.or_true, st_ift, st_if (by simp; omega), w2]
  exact st_ret ih
 | [x], p, o, b, e, hp, ho, hop => by
  have hlen : l.length = p.length + 1 := by rw [← e]; simp
  have w1 : IntKind.i64.wrap ((p.length : Int) + 1) = ((p.length + 1 : Nat) : Int) := by rw [wrap_i64] <;> omega
  have ho' : o = pairsB l := by rw [← ho]; simp [pairsB]
  rw [RY, y23_at175, w1, st_f (by rw [List.length_map]; omega)]
  rw [st_S (joinY b o [44, 32] (by omega) (by rw [ho']; omega)), st_if (by rw [ho']; omega), st_if (by rw [ho']; simp; omega), ho']; rfl
 | [], p, o, b, e, hp, ho, hop => by
  have hlen : l.length = p.length := by rw [← e]; simp
  have w1 : IntKind.i64.wrap ((p.length : Int) + 1) = ((p.length + 1 : Nat) : Int) := by rw [wrap_i64] <;> omega
  have ho' : o = pairsB l := by rw [← ho]; simp [pairsB]
  rw [RY, y23_at175, w1, st_f (by rw [List.length_map]; omega)]
  rw [st_S (joinY b o [44, 32] (by omega) (by rw [ho']; omega)), st_if (by rw [ho']; omega), st_if (by rw [ho']; simp; omega), ho']; rfl
theorem fmtY (n : Int) (h : I64 n) : RY (Task.call 49 [V.d (D.i IntKind.i64 n), V.d (D.i IntKind.i64 10)] []) = some (.d (.s (decI n)), []) := by
 rw [ext_callY (g := fmtIntExt) rfl]
 exact if_pos (c := (10 : Int) = 10 ∧ -9223372036854775808 ≤ n ∧ n ≤ 9223372036854775807) ⟨rfl, h.1, h.2⟩
theorem tenY (n : Int) (h : I64 n) : RY (Task.call 47 [V.d (D.i IntKind.i64 n)] []) = some (.d (.s (decI n)), []) := by
 rw [ext_callY (g := tenExtY) rfl]
 simp only [tenExtY, if_pos (show -9223372036854775808 ≤ n ∧ n ≤ 9223372036854775807 from ⟨h.1, h.2⟩)]
theorem showY (n : Int) (h : U64 n) : RY (Task.call 50 [V.d (D.i IntKind.u64 n)] []) = some (.d (.s (showB n.toNat)), []) := by
 rw [ext_callY (g := showExtY) rfl]
 simp only [showExtY, if_pos (show 0 ≤ n ∧ n < 18446744073709551616 from ⟨h.1, h.2⟩)]
theorem dshowY (n : Int) (h : U64 n) : RY (Task.call 48 [V.d (D.i IntKind.u64 n)] []) = some (.d (.s (showB n.toNat)), []) := by
 rw [ext_callY (g := showExtY) rfl]
 simp only [showExtY, if_pos (show 0 ≤ n ∧ n < 18446744073709551616 from ⟨h.1, h.2⟩)]
theorem pconst_s : ∀ d, ConOk 23 d
 | 0 => fun x h => h.elim
 | d + 1 => fun x h hk hl => by
  obtain ⟨k, n, u, s, b, l, rfl, h1, h2, h3, h4, h5, h6⟩ := h
  have hk : k ≠ 0 := hk
  have hle := parts_le hk h5 (l := l) (n := n) (u := u) (s := s) (b := b)
  rw [RY, y23]
  by_cases e1 : k = 1
  ·rw [st_eq e1, st_S (fmtY n h1)]
   simp only [prC, if_pos e1]; rfl
  by_cases e2 : k = 2
  ·rw [st_ne e1, st_eq e2, st_S (showY u h2)]
   simp only [prC, if_neg e1, if_pos e2]; rfl
  by_cases e3 : k = 3
  ·rw [st_ne e1, st_ne e2, st_eq e3, st_S (ptext_s s h3)]
   simp only [prC, if_neg e1, if_neg e2, if_pos e3]; rfl
  by_cases e4 : k = 4
  ·rw [st_ne e1, st_ne e2, st_ne e3, st_eq e4]
   simp only [prC, if_neg e1, if_neg e2, if_neg e3, if_pos e4]; rfl
  have hle := hle (by omega) hl
  obtain ⟨b', hc⟩ := consts_s (pconst_s d) b l (fun y hy => ⟨(h6 y hy).1, (h6 y hy).2, hle y hy⟩) h4
  by_cases e5 : k = 5
  ·have hj : (Lib.join (prCs l) [44, 32]).length ≤ 900000 := by
    simp only [cD, prC, if_neg e1, if_neg e2, if_neg e3, if_neg e4, if_pos e5, List.length_append] at hl; omega
   rw [st_ne e1, st_ne e2, st_ne e3, st_ne e4, st_eq e5, st_L hc, st_S (joinY b' (prCs l) [44, 32] (by rw [prCs_eq, List.length_map]; omega) (by omega)), st_if (by omega), st_if (by simp; omega)]
   simp only [prC, if_neg e1, if_neg e2, if_neg e3, if_neg e4, if_pos e5]; rfl
  ·have hj : (Lib.join (pairsB (prCs l)) [44, 32]).length ≤ 900000 := by
    simp only [cD, prC, if_neg e1, if_neg e2, if_neg e3, if_neg e4, if_neg e5, List.length_append] at hl; omega
   rw [st_ne e1, st_ne e2, st_ne e3, st_ne e4, st_ne e5, st_L hc]
   simp only [prC, if_neg e1, if_neg e2, if_neg e3, if_neg e4, if_neg e5]
   exact st_ret (pairs_loop (prCs l) (by rw [prCs_eq, List.length_map]; omega) (fun y hy => by
    rw [prCs_eq] at hy
    obtain ⟨z, hz, rfl⟩ := List.mem_map.1 hy
    exact hle z hz) hj b' (prCs l) [] [] true rfl rfl rfl (Nat.le_refl _))
end Go.Dn.Dec
namespace Go.Dn.Dec
open Go.Proofs
set_option linter.unusedVariables false
set_option linter.unusedSimpArgs false
theorem join_snoc (p : List (List UInt8)) (x sep : List UInt8) (h : p ≠ []) : Lib.join (p ++ [x]) sep = Lib.join p sep ++ sep ++ x := by
 cases p with
 | nil => exact absurd rfl h
 | cons a p =>
  rw [List.cons_append, Lib.join_cons, Lib.join_cons]
  simp [Lib.joinTail, List.append_assoc]
theorem join_pre (p r : List (List UInt8)) (sep : List UInt8) : (Lib.join p sep).length ≤ (Lib.join (p ++ r) sep).length := by
 cases p with
 | nil => rw [Lib.join_nil]; exact Nat.zero_le _
 | cons a p =>
  rw [List.cons_append, Lib.join_cons, Lib.join_cons]
  simp only [Lib.joinTail, List.map_append, List.flatten_append, List.length_append]
  omega
abbrev cO (k n u : Int) (s : List UInt8) (b : Bool) (l : List D) : Ob := Ob.cells [V.d (D.i IntKind.i64 k), V.d (D.i IntKind.i64 n), V.d (D.i IntKind.u64 u), V.d (D.s s), V.d (D.l b l)] []
theorem rtext_loop (k n u : Int) (s : List UInt8) (b : Bool) (l : List D) (hs : s.length ≤ 2000) : ∀ (r p : List UInt8), p ++ r = s → p.contains 34 = false →
  RY (Task.at_ 22 0 [false, true, false, false, true, true, true, true, true, false, true, false, true] (sv 100 [(1, V.p 0 0), (3, V.d (D.i IntKind.i64 (p.length : Int)))]) [] [cO k n u s b l]) = some (.d (.s (quoteB s)), [])
 | [], p, e, hp => by
  rw [List.append_nil] at e
  subst e
  rw [RY, y22_at10741, st_f (by omega), st_if (by omega), st_if (by simp; omega)]
  simp only [quoteB, hp, Bool.false_eq_true, if_false]; rfl
 | c :: r, p, e, hp => by
  have hlen : s.length = p.length + (r.length + 1) := by rw [← e]; simp
  have w1 : IntKind.i64.wrap ((p.length : Int) + 1) = ((p.length + 1 : Nat) : Int) := by rw [wrap_i64] <;> omega
  have g : getI s (p.length : Int) = some c := by rw [getI_nat, ← e]; simp
  by_cases hc : c = 34
  ·rw [RY, y22_at10741, st_t (by omega), st_ob g, st_eq (by rw [hc]; rfl), st_if (by omega), st_if (by simp; omega)]
   have : s.contains 34 = true := by rw [← e, hc]; simp
   simp only [quoteB, this, if_true]; rfl
  ·have h34 : ((c.toNat : Int)) ≠ 34 := fun h => hc (UInt8.toNat_inj.1 (by simp; omega))
   rw [RY, y22_at10741, st_t (by omega), st_ob g, st_ne h34, w1]
   have ih := rtext_loop k n u s b l hs r (p ++ [c]) (by rw [← e]; simp) (by
    simp at hp ⊢
    exact ⟨hp, fun h => hc h.symm⟩)
   rw [show (p ++ [c]).length = p.length + 1 by simp] at ih
   exact st_ret ih
theorem rlist_loop {d : Nat} (hC : ConOk 22 d) (k n u : Int) (s : List UInt8) (b : Bool) (l : List D) (hl : l.length ≤ 100) (h : ∀ y ∈ l, WC d y ∧ Kn y ∧ (prC y).length ≤ 900000) (hj : (Lib.join (l.map prC) [44, 32]).length ≤ 900000) : ∀ (r p : List D), p ++ r = l →
  RY (Task.at_ 22 0 [false, true, false, true, false, true, true, true, true, true, true, true, true, true, false, true, false, true] (sv 100 [(1, V.p 0 0), (4, V.d (D.s ([91] ++ Lib.join (p.map prC) [44, 32]))), (5, V.d (D.i IntKind.i64 (p.length : Int)))]) [] [cO k n u s b l]) = some (.d (.s ([91] ++ Lib.join (l.map prC) [44, 32] ++ [93])), [])
 | [], p, e => by
  rw [List.append_nil] at e
  subst e
  rw [RY, y22_at352245, st_f (by omega), st_if (by simp; omega)]; rfl
 | x :: r, p, e => by
  have hlen : l.length = p.length + (r.length + 1) := by rw [← e]; simp
  have w1 : IntKind.i64.wrap ((p.length : Int) + 1) = ((p.length + 1 : Nat) : Int) := by rw [wrap_i64] <;> omega
  obtain ⟨h1, h2, h3⟩ := h x (by rw [← e]; simp)
  have hc := hC x h1 h2 h3
  have g : l[p.length]? = some x := by rw [← e]; simp
  have hpre := join_pre ((p ++ [x]).map prC) (r.map prC) [44, 32]
  rw [← List.map_append, show (p ++ [x]) ++ r = l by rw [← e]; simp] at hpre
  have hpre0 := join_pre (p.map prC) ((x :: r).map prC) [44, 32]
  rw [← List.map_append, e] at hpre0
  have ih := rlist_loop hC k n u s b l hl h hj r (p ++ [x]) (by rw [← e]; simp)
  rw [show (p ++ [x]).length = p.length + 1 by simp] at ih
  have step : ∀ acc : List UInt8, acc.length ≤ 1000000 → acc ++ prC x = [91] ++ Lib.join ((p ++ [x]).map prC) [44, 32] →
    RY (Task.at_ 22 0 [true, false, false, true, false, false, true, false, true, false, true, true, true, true, true, true, true, true, true, false, true, false, true] (sv 100 [(1, V.p 0 0), (4, V.d (D.s acc)), (5, V.d (D.i IntKind.i64 (p.length : Int)))]) [] [cO k n u s b l]) = some (.d (.s ([91] ++ Lib.join (l.map prC) [44, 32] ++ [93])), []) := by
   intro acc ha hacc
   rw [RY, y22_at13197301]
   refine (y_el g (wc_width h1)).trans ?_
   cases d with
   | zero => exact h1.elim
   | succ d =>
    obtain ⟨k', n', u', s', bb, l', rfl, _⟩ := h1
    refine (st_S hc).trans ?_
    rw [st_if (by omega), hacc, w1]
    exact st_ret ih
  rw [RY, y22_at352245, st_t (by omega)]
  by_cases hp : p = []
  ·subst hp
   rw [st_f (by simp)]
   refine st_ret (step _ (by simp [Lib.join_nil]) (by simp [Lib.join_one, Lib.join_nil]))
  ·have : 0 < p.length := List.length_pos_iff.2 hp
   rw [st_t (by omega), st_if (by simp; omega)]
   refine st_ret (step _ (by simp; omega) ?_)
   rw [List.map_append, List.map_singleton, join_snoc _ _ _ (by simpa using hp)]
   simp [List.append_assoc]
theorem rmap_loop {d : Nat} (hC : ConOk 22 d) (k n u : Int) (s : List UInt8) (b : Bool) (l : List D) (hl : l.length ≤ 100) (h : ∀ y ∈ l, WC d y ∧ Kn y ∧ (prC y).length ≤ 900000) (hj : (Lib.join (pairsB (l.map prC)) [44, 32]).length ≤ 900000) : ∀ (r p : List D) (o : List (List UInt8)), p ++ r = l → o ++ pairsB (r.map prC) = pairsB (l.map prC) → o.length * 2 = p.length →
  RY (Task.at_ 22 0 [false, true, false, true, true, true] (sv 100 [(1, V.p 0 0), (6, V.d (D.s ([123] ++ Lib.join o [44, 32]))), (7, V.d (D.i IntKind.i64 (p.length : Int)))]) [] [cO k n u s b l]) = some (.d (.s ([123] ++ Lib.join (pairsB (l.map prC)) [44, 32] ++ [125])), [])
 | [], p, o, e, ho, hop => by
  have hlen : l.length = p.length := by rw [← e]; simp
  have w1 : IntKind.i64.wrap ((p.length : Int) + 1) = ((p.length + 1 : Nat) : Int) := by rw [wrap_i64] <;> omega
  have ho' : o = pairsB (l.map prC) := by rw [← ho]; simp [pairsB]
  rw [RY, y22_at87, w1, st_f (by omega), ho', st_if (by simp; omega)]; rfl
 | [x], p, o, e, ho, hop => by
  have hlen : l.length = p.length + 1 := by rw [← e]; simp
  have w1 : IntKind.i64.wrap ((p.length : Int) + 1) = ((p.length + 1 : Nat) : Int) := by rw [wrap_i64] <;> omega
  have ho' : o = pairsB (l.map prC) := by rw [← ho]; simp [pairsB]
  rw [RY, y22_at87, w1, st_f (by omega), ho', st_if (by simp; omega)]; rfl
 | x :: y :: r, p, o, e, ho, hop => by
  have hlen : l.length = p.length + (r.length + 2) := by rw [← e]; simp
  have w1 : IntKind.i64.wrap ((p.length : Int) + 1) = ((p.length + 1 : Nat) : Int) := by rw [wrap_i64] <;> omega
  have w2 : IntKind.i64.wrap ((p.length : Int) + 2) = ((p.length + 2 : Nat) : Int) := by rw [wrap_i64] <;> omega
  obtain ⟨h1, h2, h3⟩ := h x (by rw [← e]; simp)
  obtain ⟨i1, i2, i3⟩ := h y (by rw [← e]; simp)
  have hc := hC x h1 h2 h3
  have hd := hC y i1 i2 i3
  have g1 : l[p.length]? = some x := by rw [← e]; simp
  have g2 : l[p.length + 1]? = some y := by rw [← e]; simp
  have ho2 : (o ++ [prC x ++ [58, 32] ++ prC y]) ++ pairsB (r.map prC) = pairsB (l.map prC) := by rw [← ho]; simp [pairsB]
  have hpre := join_pre (o ++ [prC x ++ [58, 32] ++ prC y]) (pairsB (r.map prC)) [44, 32]
  rw [ho2] at hpre
  have hpre0 := join_pre o (pairsB ((x :: y :: r).map prC)) [44, 32]
  rw [ho] at hpre0
  have ih := rmap_loop hC k n u s b l hl h hj r (p ++ [x, y]) (o ++ [prC x ++ [58, 32] ++ prC y]) (by rw [← e]; simp) ho2 (by simp; omega)
  rw [show (p ++ [x, y]).length = p.length + 2 by simp] at ih
  have step : ∀ acc : List UInt8, acc.length ≤ 1000000 → acc ++ prC x ++ [58, 32] ++ prC y = [123] ++ Lib.join (o ++ [prC x ++ [58, 32] ++ prC y]) [44, 32] →
    RY (Task.at_ 22 0 [true, false, false, true, false, false, true, false, true, true, true] (sv 100 [(1, V.p 0 0), (6, V.d (D.s acc)), (7, V.d (D.i IntKind.i64 (p.length : Int)))]) [] [cO k n u s b l]) = some (.d (.s ([123] ++ Lib.join (pairsB (l.map prC)) [44, 32] ++ [125])), []) := by
   intro acc ha hacc
   rw [RY, y22_at3223, w1, w2]
   refine (y_el g1 (wc_width h1)).trans ?_
   cases d with
   | zero => exact h1.elim
   | succ d =>
    obtain ⟨k', n', u', s', bb, l', rfl, _⟩ := h1
    refine (st_S hc).trans ?_
    rw [st_if (by omega), st_if (by simp; omega)]
    refine (y_el g2 (wc_width i1)).trans ?_
    obtain ⟨k2, n2, u2, s2, bb2, l2, rfl, _⟩ := i1
    refine (st_S hd).trans ?_
    rw [st_if (by simp; omega), hacc]
    exact st_ret ih
  rw [RY, y22_at87, w1, st_t (by omega)]
  by_cases hp : o = []
  ·subst hp
   have : p.length = 0 := by simpa using hop.symm
   rw [st_f (by omega)]
   refine st_ret (step _ (by simp [Lib.join_nil]) (by simp [Lib.join_one, Lib.join_nil, List.append_assoc]))
  ·have : 0 < o.length := List.length_pos_iff.2 hp
   rw [st_t (by omega), st_if (by simp; omega)]
   refine st_ret (step _ (by simp; omega) ?_)
   rw [join_snoc _ _ _ hp]
   simp [List.append_assoc]
theorem rconst_s : ∀ d, ConOk 22 d
 | 0 => fun x h => h.elim
 | d + 1 => fun x h hk hl => by
  obtain ⟨k, n, u, s, b, l, rfl, h1, h2, h3, h4, h5, h6⟩ := h
  have hk : k ≠ 0 := hk
  have hle := parts_le hk h5 (l := l) (n := n) (u := u) (s := s) (b := b)
  rw [RY, y22]
  by_cases e1 : k = 1
  ·rw [st_eq e1, st_S (tenY n h1)]
   simp only [prC, if_pos e1]; rfl
  by_cases e2 : k = 2
  ·rw [st_ne e1, st_eq e2, st_S (dshowY u h2)]
   simp only [prC, if_neg e1, if_pos e2]; rfl
  by_cases e3 : k = 3
  ·rw [st_ne e1, st_ne e2, st_eq e3]
   simp only [prC, if_neg e1, if_neg e2, if_pos e3]
   exact st_ret (rtext_loop k n u s b l h3 s [] rfl rfl)
  by_cases e4 : k = 4
  ·rw [st_ne e1, st_ne e2, st_ne e3, st_eq e4]
   simp only [prC, if_neg e1, if_neg e2, if_neg e3, if_pos e4]; rfl
  have hle := hle (by omega) hl
  have hy : ∀ y ∈ l, WC d y ∧ Kn y ∧ (prC y).length ≤ 900000 := fun y hy => ⟨(h6 y hy).1, (h6 y hy).2, hle y hy⟩
  by_cases e5 : k = 5
  ·have hj : (Lib.join (l.map prC) [44, 32]).length ≤ 900000 := by
    simp only [cD, prC, if_neg e1, if_neg e2, if_neg e3, if_neg e4, if_pos e5, List.length_append, prCs_eq] at hl; omega
   rw [st_ne e1, st_ne e2, st_ne e3, st_ne e4, st_eq e5]
   simp only [prC, if_neg e1, if_neg e2, if_neg e3, if_neg e4, if_pos e5, prCs_eq]
   exact st_ret (rlist_loop (rconst_s d) k n u s b l h4 hy hj l [] rfl)
  ·have hj : (Lib.join (pairsB (l.map prC)) [44, 32]).length ≤ 900000 := by
    simp only [cD, prC, if_neg e1, if_neg e2, if_neg e3, if_neg e4, if_neg e5, List.length_append, prCs_eq] at hl; omega
   rw [st_ne e1, st_ne e2, st_ne e3, st_ne e4, st_ne e5]
   simp only [prC, if_neg e1, if_neg e2, if_neg e3, if_neg e4, if_neg e5, prCs_eq]
   exact st_ret (rmap_loop (rconst_s d) k n u s b l h4 hy hj l [] [] rfl rfl rfl)
end Go.Dn.Dec
namespace Go.Dn.Dec
open Go.Proofs
set_option linter.unusedVariables false
set_option linter.unusedSimpArgs false
def reqB (r : Int) : List UInt8 := if r = 1 then [114, 101, 113, 117, 105, 114, 101, 100, 32] else if r = 2 then [111, 112, 116, 105, 111, 110, 97, 108, 32] else []
def idB (h : Bool) (id : Int) : List UInt8 := if h = true then decI id ++ [58, 32] else []
def iniB (hi : Bool) (c : D) : List UInt8 := if hi = true then [32, 61, 32] ++ prC c else []
theorem prF_eq (h : Bool) (id r : Int) (t nm : List UInt8) (hi : Bool) (k n u : Int) (s : List UInt8) (b : Bool) (l : List D) : prF (fD h id r t nm hi k n u s b l) = idB h id ++ reqB r ++ t ++ [32] ++ nm ++ iniB hi (cD k n u s b l) := rfl
theorem decI_bound {n : Int} (h : I64 n) : (decI n).length ≤ 100 := by
  unfold decI
  obtain ⟨h1, h2⟩ := h
  split
  · rw [List.length_cons]
    have := decN_len 20 n.natAbs (by decide) (by have : n.natAbs ≤ 9223372036854775808 := by omega
                                                 exact Nat.lt_of_le_of_lt this (by decide))
    omega
  · have := decN_len 20 n.toNat (by decide) (by have : n.toNat ≤ 9223372036854775808 := by omega
                                                exact Nat.lt_of_le_of_lt this (by decide))
    omega
abbrev fO (h : Bool) (id r : Int) (t nm : List UInt8) (hi : Bool) (k n u : Int) (s : List UInt8) (b : Bool) (l : List D) : Ob :=
 Ob.cells [V.d (D.b h), V.d (D.i IntKind.i64 id), V.d (D.i IntKind.i64 r), V.d (D.s t), V.d (D.s nm), V.d (D.b hi), V.d (D.i IntKind.i64 k), V.d (D.i IntKind.i64 n), V.d (D.i IntKind.u64 u), V.d (D.s s), V.d (D.l b l)] []
section
variable (h : Bool) (id r : Int) (t nm : List UInt8) (hi : Bool) (k n u : Int) (s : List UInt8) (b : Bool) (l : List D) (ht : t.length ≤ 100000) (hn : nm.length ≤ 2000) (hk : hi = true → k ≠ 0) (hw : WC deepC (cD k n u s b l)) (hl : hi = true → (prC (cD k n u s b l)).length ≤ 900000)
include ht hn hk hw hl
theorem pf31 (acc : List UInt8) (ha : acc.length ≤ 1000) : RY (Task.at_ 59 0 [true, true, true, true] (sv 37 [(1, V.p 0 0), (3, V.d (D.s acc))]) [] [fO h id r t nm hi k n u s b l]) = some (.d (.s (acc ++ t ++ [32] ++ nm ++ iniB hi (cD k n u s b l))), []) := by
 rw [RY, y59_at31, st_if (by omega), st_if (by simp; omega), st_if (by simp; omega)]
 cases hi with
 | true =>
  have hl := hl rfl
  rw [st_T]
  refine (st_S (pconst_s deepC _ hw (hk rfl) hl)).trans ?_
  rw [st_if (by omega), st_if (by simp at hl ⊢; omega)]
  simp only [iniB, if_true, interp_ret, List.append_assoc]
 | false =>
  rw [st_F]
  simp only [iniB, Bool.false_eq_true, if_false, interp_ret, List.append_assoc, List.append_nil]
theorem pf15 (acc : List UInt8) (ha : acc.length ≤ 900) : RY (Task.at_ 59 0 [true, true, true] (sv 37 [(1, V.p 0 0), (3, V.d (D.s acc))]) [] [fO h id r t nm hi k n u s b l]) = some (.d (.s (acc ++ reqB r ++ t ++ [32] ++ nm ++ iniB hi (cD k n u s b l))), []) := by
 have e := fun acc ha => pf31 h id r t nm hi k n u s b l ht hn hk hw hl acc ha
 rw [RY, y59_at15]
 unfold reqB
 by_cases h1 : r = 1
 ·rw [st_eq h1, if_pos h1, st_if (by omega)]
  exact st_ret (e _ (by simp; omega))
 ·by_cases h2 : r = 2
  ·rw [st_ne h1, if_neg h1, st_eq h2, if_pos h2, st_if (by omega)]
   exact st_ret (e _ (by simp; omega))
  ·rw [st_ne h1, if_neg h1, st_ne h2, if_neg h2, List.append_nil]
   exact st_ret (e _ (by omega))
theorem rf31 (acc : List UInt8) (ha : acc.length ≤ 1000) : RY (Task.at_ 61 0 [true, true, true, true] (sv 37 [(1, V.p 0 0), (3, V.d (D.s acc))]) [] [fO h id r t nm hi k n u s b l]) = some (.d (.s (acc ++ t ++ [32] ++ nm ++ iniB hi (cD k n u s b l))), []) := by
 rw [RY, y61_at31, st_if (by omega), st_if (by simp; omega), st_if (by simp; omega)]
 cases hi with
 | true =>
  have hl := hl rfl
  rw [st_T, st_if (by simp; omega)]
  refine (st_S (rconst_s deepC _ hw (hk rfl) hl)).trans ?_
  rw [st_if (by simp at hl ⊢; omega)]
  simp only [iniB, if_true, interp_ret, List.append_assoc]
 | false =>
  rw [st_F]
  simp only [iniB, Bool.false_eq_true, if_false, interp_ret, List.append_assoc, List.append_nil]
theorem rf15 (acc : List UInt8) (ha : acc.length ≤ 900) : RY (Task.at_ 61 0 [true, true, true] (sv 37 [(1, V.p 0 0), (3, V.d (D.s acc))]) [] [fO h id r t nm hi k n u s b l]) = some (.d (.s (acc ++ reqB r ++ t ++ [32] ++ nm ++ iniB hi (cD k n u s b l))), []) := by
 have e := fun acc ha => rf31 h id r t nm hi k n u s b l ht hn hk hw hl acc ha
 rw [RY, y61_at15]
 unfold reqB
 by_cases h1 : r = 1
 ·rw [st_eq h1, if_pos h1, st_if (by omega)]
  exact st_ret (e _ (by simp; omega))
 ·by_cases h2 : r = 2
  ·rw [st_ne h1, if_neg h1, st_eq h2, if_pos h2, st_if (by omega)]
   exact st_ret (e _ (by simp; omega))
  ·rw [st_ne h1, if_neg h1, st_ne h2, if_neg h2, List.append_nil]
   exact st_ret (e _ (by omega))
end
def PrOk (k : Nat) (W : D → Prop) (pr : D → List UInt8) : Prop := ∀ x, W x → (pr x).length ≤ 900000 → RY (Task.call k [V.d x] []) = some (.d (.s (pr x)), [])
theorem ini_len {hi : Bool} {c : D} {a : List UInt8} (h : (a ++ iniB hi c).length ≤ 900000) : hi = true → (prC c).length ≤ 900000 := by
 rintro rfl
 simp only [iniB, if_true, List.length_append] at h
 omega
theorem pfield_s : PrOk 59 WF prF := by
 intro x hx hl
 obtain ⟨h, id, r, t, nm, hi, k, n, u, s, b, l, rfl, h1, h2, h3, h4, h5⟩ := hx
 rw [prF_eq] at hl ⊢
 have e := fun acc ha => pf15 h id r t nm hi k n u s b l h2 h3 h4 h5 (ini_len hl) acc ha
 rw [RY, y59]
 cases h with
 | true =>
  have := decI_bound h1
  rw [st_T, st_S (fmtY id h1), st_if (by omega)]
  refine (st_ret (e _ (by simp; omega))).trans ?_
  simp only [idB, if_true]
 | false =>
  rw [st_F]
  refine (st_ret (e _ (by simp))).trans ?_
  simp only [idB, Bool.false_eq_true, if_false]
theorem rfield_s : PrOk 61 WF prF := by
 intro x hx hl
 obtain ⟨h, id, r, t, nm, hi, k, n, u, s, b, l, rfl, h1, h2, h3, h4, h5⟩ := hx
 rw [prF_eq] at hl ⊢
 have e := fun acc ha => rf15 h id r t nm hi k n u s b l h2 h3 h4 h5 (ini_len hl) acc ha
 rw [RY, y61]
 cases h with
 | true =>
  have := decI_bound h1
  rw [st_T, st_S (tenY id h1), st_if (by omega)]
  refine (st_ret (e _ (by simp; omega))).trans ?_
  simp only [idB, if_true]
 | false =>
  rw [st_F]
  refine (st_ret (e _ (by simp))).trans ?_
  simp only [idB, Bool.false_eq_true, if_false]
theorem wf_width {x : D} (h : WF x) : x.width = 11 := by
 obtain ⟨_, _, _, _, _, _, _, _, _, _, _, _, rfl, _⟩ := h; rfl
theorem field_le {l : List D} (hl : (prFs l).length ≤ 900000) : ∀ y ∈ l, (prF y).length ≤ 900000 := fun y hy => by
 have := join_mem (sep := [44, 32]) (List.mem_map.2 ⟨y, hy, rfl⟩ : prF y ∈ l.map prF)
 unfold prFs at hl; omega
theorem pfs_loop (l : List D) (hl : l.length ≤ 100) (h : ∀ y ∈ l, WF y) (hj : (prFs l).length ≤ 900000) (b2 : Bool) : ∀ (r p : List D) (b : Bool), p ++ r = l →
  RY (Task.at_ 124 0 [false, true, false, true, true] (sv 20 [(3, V.d (D.l b ((p.map prF).map D.s))), (6, V.d (D.l b2 l)), (7, V.d (D.i IntKind.i64 (l.length : Int))), (8, V.d (D.i IntKind.i64 (p.length : Int)))]) [(3, 1)] []) = some (.d (.s (prFs l)), [])
 | [], p, b, e => by
  rw [List.append_nil] at e
  subst e
  unfold prFs at hj ⊢
  rw [RY, y124_at43, st_f (by omega), st_S (joinY b (p.map prF) [44, 32] (by rw [List.length_map]; omega) (by omega))]; rfl
 | x :: r, p, b, e => by
  have hlen : l.length = p.length + (r.length + 1) := by rw [← e]; simp
  have w1 : IntKind.i64.wrap ((p.length : Int) + 1) = ((p.length + 1 : Nat) : Int) := by rw [wrap_i64] <;> omega
  have hx : x ∈ l := by rw [← e]; simp
  have hc := pfield_s x (h x hx) (field_le hj x hx)
  have hwd := h x hx
  have g : l[p.length]? = some x := by rw [← e]; simp
  have ih := pfs_loop l hl h hj b2 r (p ++ [x]) (b && false) (by rw [← e]; simp)
  rw [show (p ++ [x]).length = p.length + 1 by simp, List.map_append, List.map_append] at ih
  rw [RY, y124_at43, st_t (by omega)]
  refine (y_el g (wf_width hwd)).trans ?_
  obtain ⟨h, id, r, t, nm, hi, k, n, u, s, bb, l', rfl, _⟩ := hwd
  refine st_ift.trans ?_
  refine (st_S hc).trans ?_
  rw [head1, st_ift, Bool.or_true, st_ift, st_if (by simp; omega), w1]
  exact st_ret ih
theorem pfs_s (b : Bool) (l : List D) (hl : l.length ≤ 100) (h : ∀ y ∈ l, WF y) (hj : (prFs l).length ≤ 900000) : RY (Task.call 124 [V.d (D.l b l)] []) = some (.d (.s (prFs l)), []) := by
 rw [RY, y124]
 exact st_ret (pfs_loop l hl h hj b l [] true rfl)
theorem rfs_loop (l : List D) (hl : l.length ≤ 100) (h : ∀ y ∈ l, WF y) (hj : (prFs l).length ≤ 900000) (b2 : Bool) : ∀ (r p : List D), p ++ r = l →
  RY (Task.at_ 125 0 [false, true, false, true, true] (sv 23 [(0, V.d (D.l b2 l)), (3, V.d (D.s (prFs p))), (4, V.d (D.i IntKind.i64 (p.length : Int)))]) [] []) = some (.d (.s (prFs l)), [])
 | [], p, e => by
  rw [List.append_nil] at e
  subst e
  rw [RY, y125_at43, st_f (by omega)]; rfl
 | x :: r, p, e => by
  have hlen : l.length = p.length + (r.length + 1) := by rw [← e]; simp
  have w1 : IntKind.i64.wrap ((p.length : Int) + 1) = ((p.length + 1 : Nat) : Int) := by rw [wrap_i64] <;> omega
  have hx : x ∈ l := by rw [← e]; simp
  have hxl := field_le hj x hx
  have hc := rfield_s x (h x hx) hxl
  have hwd := h x hx
  have g : l[p.length]? = some x := by rw [← e]; simp
  have hpre0 := join_pre (p.map prF) ((x :: r).map prF) [44, 32]
  rw [← List.map_append, e] at hpre0
  have ih := rfs_loop l hl h hj b2 r (p ++ [x]) (by rw [← e]; simp)
  rw [show (p ++ [x]).length = p.length + 1 by simp] at ih
  have step : ∀ acc : List UInt8, acc.length ≤ 1000000 → acc ++ prF x = prFs (p ++ [x]) →
    RY (Task.at_ 125 0 [true, false, false, true, false, false, true, false, true, true] (sv 23 [(0, V.d (D.l b2 l)), (3, V.d (D.s acc)), (4, V.d (D.i IntKind.i64 (p.length : Int)))]) [] []) = some (.d (.s (prFs l)), []) := by
   intro acc ha hacc
   rw [RY, y125_at1611, w1]
   refine (y_el g (wf_width hwd)).trans ?_
   obtain ⟨h, id, r, t, nm, hi, k, n, u, s, bb, l', rfl, _⟩ := hwd
   refine (st_S hc).trans ?_
   rw [st_if (by omega), hacc]
   exact st_ret ih
  unfold prFs at *
  rw [RY, y125_at43, st_t (by omega)]
  by_cases hp : p = []
  ·subst hp
   rw [st_f (by simp)]
   refine st_ret (step _ (by simp [Lib.join_nil]) (by simp [Lib.join_one, Lib.join_nil]))
  ·have : 0 < p.length := List.length_pos_iff.2 hp
   rw [st_t (by omega), st_if (by omega)]
   refine st_ret (step _ (by simp; omega) ?_)
   rw [List.map_append, List.map_singleton, join_snoc _ _ _ (by simpa using hp)]
theorem rfs_s (b : Bool) (l : List D) (hl : l.length ≤ 100) (h : ∀ y ∈ l, WF y) (hj : (prFs l).length ≤ 900000) : RY (Task.call 125 [V.d (D.l b l)] []) = some (.d (.s (prFs l)), []) := by
 rw [RY, y125]
 exact st_ret (rfs_loop l hl h hj b l [] rfl)
def owB (ow : Bool) : List UInt8 := if ow = true then [111, 110, 101, 119, 97, 121, 32] else []
def thB (tl : List D) : List UInt8 := if tl = [] then [] else [32, 116, 104, 114, 111, 119, 115, 32, 40] ++ prFs tl ++ [41]
theorem prMe_eq (nm : List UInt8) (ow : Bool) (ret : List UInt8) (ab : Bool) (al : List D) (tb : Bool) (tl : List D) : prMe (meD nm ow ret ab al tb tl) = [32, 32] ++ owB ow ++ ret ++ [32] ++ nm ++ [40] ++ prFs al ++ [41] ++ thB tl ++ [44, 10] := rfl
theorem th_len {tl : List D} {a c : List UInt8} (h : (a ++ thB tl ++ c).length ≤ 900000) : (prFs tl).length ≤ 900000 := by
 by_cases ht : tl = []
 ·subst ht; simp [prFs, Lib.join_nil]
 ·simp only [thB, if_neg ht, List.length_append] at h; omega
theorem rmethod_s : PrOk 62 WMe prMe := by
 intro x hx hl
 obtain ⟨nm, ow, ret, ab, al, tb, tl, rfl, h1, h2, h3, h4, h5, h6⟩ := hx
 rw [prMe_eq] at hl ⊢
 have ha : (prFs al).length ≤ 900000 := by simp only [List.length_append] at hl; omega
 have ht := th_len hl
 have c1 := rfs_s ab al h3 h5 ha
 have c2 := rfs_s tb tl h4 h6 ht
 have e : ∀ acc : List UInt8, acc.length ≤ 1000 → RY (Task.at_ 62 0 [true, true, true] (sv 35 [(1, V.p 0 0), (3, V.d (D.s acc))]) [] [Ob.cells [V.d (D.s nm), V.d (D.b ow), V.d (D.s ret), V.d (D.l ab al), V.d (D.l tb tl)] []]) =
   some (.d (.s (acc ++ ret ++ [32] ++ nm ++ [40] ++ prFs al ++ [41] ++ thB tl ++ [44, 10])), []) := by
  intro acc hacc
  rw [RY, y62_at15, st_if (by omega), st_if (by simp; omega), st_if (by simp; omega), st_if (by simp; omega), st_S c1, st_if (by simp; omega), st_if (by simp; omega)]
  by_cases h0 : tl = []
  ·subst h0
   rw [st_f (by simp)]
   refine (st_ret (o := _) ?_)
   rw [RY, y62_at63, st_if (by simp; omega)]
   simp only [thB, if_true, List.append_nil]; rfl
  ·have : 0 < tl.length := List.length_pos_iff.2 h0
   rw [st_t (by omega), st_if (by simp; omega), st_S c2, st_if (by simp; omega), st_if (by simp; omega)]
   refine (st_ret (o := _) ?_)
   rw [RY, y62_at63, st_if (by simp; omega)]
   simp only [thB, if_neg h0, interp_ret, List.append_assoc]
 rw [RY, y62]
 cases ow with
 | true => rw [st_T]; exact st_ret (e _ (by simp))
 | false => rw [st_F]; exact st_ret (e _ (by simp))
end Go.Dn.Dec
namespace Go.Dn.Dec
open Go.Proofs
set_option linter.unusedVariables false
set_option linter.unusedSimpArgs false
theorem yc_S {f : Task → Option Out} {l : List D} {i w j : Nat} {x : D} {s : List UInt8} (h : l[i]? = some x) (hw : x.width = w) (hj : x.cells[j]? = some (.s s)) {K : List UInt8 → Tr} :
  interp f (ob (getI l (i : Int)) fun d => ift (d.width == w) (ob l[((i : Int)).toNat]? fun d2 => ob d2.cells[j]? fun d3 => asS d3 K)) = interp f (K s) := by
 subst hw
 rw [getI_nat, st_ob h, beq_self_eq_true, st_ift, Int.toNat_natCast, st_ob h, st_ob hj]; rfl
theorem yc_B {f : Task → Option Out} {l : List D} {i w j : Nat} {x : D} {s : Bool} (h : l[i]? = some x) (hw : x.width = w) (hj : x.cells[j]? = some (.b s)) {K : Bool → Tr} :
  interp f (ob (getI l (i : Int)) fun d => ift (d.width == w) (ob l[((i : Int)).toNat]? fun d2 => ob d2.cells[j]? fun d3 => asB d3 K)) = interp f (K s) := by
 subst hw
 rw [getI_nat, st_ob h, beq_self_eq_true, st_ift, Int.toNat_natCast, st_ob h, st_ob hj]; rfl
theorem yc_I {f : Task → Option Out} {l : List D} {i w j : Nat} {x : D} {q : IntKind} {s : Int} (h : l[i]? = some x) (hw : x.width = w) (hj : x.cells[j]? = some (.i q s)) {K : Int → Tr} :
  interp f (ob (getI l (i : Int)) fun d => ift (d.width == w) (ob l[((i : Int)).toNat]? fun d2 => ob d2.cells[j]? fun d3 => asI q d3 K)) = interp f (K s) := by
 subst hw
 rw [getI_nat, st_ob h, beq_self_eq_true, st_ift, Int.toNat_natCast, st_ob h, st_ob hj]
 show interp f (asI q (.i q s) K) = _
 rw [interp_asI, if_pos rfl]
abbrev dO (kd : Int) (nm ty : List UInt8) (ck cn cu : Int) (cs : List UInt8) (cb : Bool) (cl : List D) (fb : Bool) (fl : List D) (mb : Bool) (ml : List D) (ex : List UInt8) (tb : Bool) (tl : List D) : Ob :=
 Ob.cells [V.d (D.i IntKind.i64 kd), V.d (D.s nm), V.d (D.s ty), V.d (D.i IntKind.i64 ck), V.d (D.i IntKind.i64 cn), V.d (D.i IntKind.u64 cu), V.d (D.s cs), V.d (D.l cb cl), V.d (D.l fb fl), V.d (D.l mb ml), V.d (D.s ex), V.d (D.l tb tl)] []
section
variable (kd : Int) (nm ty : List UInt8) (ck cn cu : Int) (cs : List UInt8) (cb : Bool) (cl : List D) (fb : Bool) (fl : List D) (mb : Bool) (ml : List D) (ex : List UInt8) (tb : Bool) (tl : List D)
theorem rdef5631 (h : ∀ y ∈ tl, WMe y) (hl : tl.length ≤ 100) : ∀ (r p : List D) (a : List UInt8), p ++ r = tl → (a ++ (r.map prMe).flatten).length ≤ 900000 →
  RY (Task.at_ 31 0 [false, true, false, true, true, true, true, true, true, true, true, true] (sv 125 [(1, V.p 0 0), (4, V.d (D.s a)), (7, V.d (D.i IntKind.i64 (p.length : Int)))]) [] [dO kd nm ty ck cn cu cs cb cl fb fl mb ml ex tb tl]) =
   some (.d (.s (a ++ (r.map prMe).flatten ++ [125, 10])), [])
 | [], p, a, e, ha => by
  rw [List.append_nil] at e
  subst e
  simp only [List.map_nil, List.flatten_nil, List.append_nil] at ha ⊢
  rw [RY, y31_at5631, st_f (by omega), st_if (by omega)]; rfl
 | x :: r, p, a, e, ha => by
  have hlen : tl.length = p.length + (r.length + 1) := by rw [← e]; simp
  have w1 : IntKind.i64.wrap ((p.length : Int) + 1) = ((p.length + 1 : Nat) : Int) := by rw [wrap_i64] <;> omega
  have hx : x ∈ tl := by rw [← e]; simp
  have g : tl[p.length]? = some x := by rw [← e]; simp
  simp only [List.map_cons, List.flatten_cons, List.length_append] at ha
  have hc := rmethod_s x (h x hx) (by omega)
  have hwd := h x hx
  have ih := rdef5631 h hl r (p ++ [x]) (a ++ prMe x) (by rw [← e]; simp) (by simp only [List.length_append]; omega)
  rw [show (p ++ [x]).length = p.length + 1 by simp] at ih
  rw [RY, y31_at5631, st_t (by omega)]
  have hw5 : x.width = 5 := by obtain ⟨_, _, _, _, _, _, _, rfl, _⟩ := hwd; rfl
  refine (y_el g hw5).trans ?_
  obtain ⟨nm', ow', ret', ab', al', tb', tl', rfl, _⟩ := hwd
  refine (st_S hc).trans ?_
  rw [st_if (by omega), w1]
  refine (st_ret ih).trans ?_
  simp only [List.map_cons, List.flatten_cons, List.append_assoc]
theorem rdef2815 (ht : ∀ y ∈ tl, WMe y) (htl : tl.length ≤ 100) (h : ∀ y ∈ fl, WF y) (hl : fl.length ≤ 100) : ∀ (r p : List D) (a : List UInt8), p ++ r = fl → (a ++ (r.map prL).flatten ++ (tl.map prMe).flatten).length ≤ 900000 →
  RY (Task.at_ 31 0 [false, true, false, true, true, true, true, true, true, true, true] (sv 125 [(1, V.p 0 0), (4, V.d (D.s a)), (6, V.d (D.i IntKind.i64 (p.length : Int)))]) [] [dO kd nm ty ck cn cu cs cb cl fb fl mb ml ex tb tl]) =
   some (.d (.s (a ++ (r.map prL).flatten ++ (tl.map prMe).flatten ++ [125, 10])), [])
 | [], p, a, e, ha => by
  rw [List.append_nil] at e
  subst e
  simp only [List.map_nil, List.flatten_nil, List.append_nil] at ha ⊢
  rw [RY, y31_at2815, st_f (by omega)]
  exact st_ret (rdef5631 kd nm ty ck cn cu cs cb cl fb p mb ml ex tb tl ht htl tl [] a rfl ha)
 | x :: r, p, a, e, ha => by
  have hlen : fl.length = p.length + (r.length + 1) := by rw [← e]; simp
  have w1 : IntKind.i64.wrap ((p.length : Int) + 1) = ((p.length + 1 : Nat) : Int) := by rw [wrap_i64] <;> omega
  have hx : x ∈ fl := by rw [← e]; simp
  have g : fl[p.length]? = some x := by rw [← e]; simp
  simp only [List.map_cons, List.flatten_cons, List.length_append, prL] at ha
  have hc := rfield_s x (h x hx) (by omega)
  have hwd := h x hx
  have ih := rdef2815 ht htl h hl r (p ++ [x]) (a ++ prL x) (by rw [← e]; simp) (by simp only [List.length_append, prL]; omega)
  rw [show (p ++ [x]).length = p.length + 1 by simp] at ih
  rw [RY, y31_at2815, st_t (by omega), st_if (by omega)]
  refine (y_el g (wf_width hwd)).trans ?_
  obtain ⟨h', id', r', t', nm', hi', k', n', u', s', bb', l', rfl, _⟩ := hwd
  refine (st_S hc).trans ?_
  rw [st_if (by simp; omega), st_if (by simp; omega), w1, show ∀ z : List UInt8, a ++ [32, 32] ++ z ++ [44, 10] = a ++ ([32, 32] ++ z ++ [44, 10]) by intro z; simp]
  refine (st_ret ih).trans ?_
  simp only [List.map_cons, List.flatten_cons, List.append_assoc]
theorem rdef1407 (ht : ∀ y ∈ tl, WMe y) (htl : tl.length ≤ 100) (hf : ∀ y ∈ fl, WF y) (hfl : fl.length ≤ 100) (h : ∀ y ∈ ml, WM y) (hl : ml.length ≤ 100) : ∀ (r p : List D) (a : List UInt8), p ++ r = ml → (a ++ (r.map prM).flatten ++ (fl.map prL).flatten ++ (tl.map prMe).flatten).length ≤ 900000 →
  RY (Task.at_ 31 0 [false, true, false, true, true, true, true, true, true, true] (sv 125 [(1, V.p 0 0), (4, V.d (D.s a)), (5, V.d (D.i IntKind.i64 (p.length : Int)))]) [] [dO kd nm ty ck cn cu cs cb cl fb fl mb ml ex tb tl]) =
   some (.d (.s (a ++ (r.map prM).flatten ++ (fl.map prL).flatten ++ (tl.map prMe).flatten ++ [125, 10])), [])
 | [], p, a, e, ha => by
  rw [List.append_nil] at e
  subst e
  simp only [List.map_nil, List.flatten_nil, List.append_nil] at ha ⊢
  rw [RY, y31_at1407, st_f (by omega)]
  exact st_ret (rdef2815 kd nm ty ck cn cu cs cb cl fb fl mb p ex tb tl ht htl hf hfl fl [] a rfl ha)
 | x :: r, p, a, e, ha => by
  have hlen : ml.length = p.length + (r.length + 1) := by rw [← e]; simp
  have w1 : IntKind.i64.wrap ((p.length : Int) + 1) = ((p.length + 1 : Nat) : Int) := by rw [wrap_i64] <;> omega
  have hx : x ∈ ml := by rw [← e]; simp
  have g : ml[p.length]? = some x := by rw [← e]; simp
  have hwd := h x hx
  have ih := rdef1407 ht htl hf hfl h hl r (p ++ [x]) (a ++ prM x) (by rw [← e]; simp) (by simp only [List.map_cons, List.flatten_cons, List.length_append] at ha ⊢; omega)
  rw [show (p ++ [x]).length = p.length + 1 by simp] at ih
  obtain ⟨nm', h', n', rfl, h1, h2⟩ := hwd
  have hb := decI_bound h2
  simp only [List.map_cons, List.flatten_cons, List.length_append, prM] at ha
  have step : ∀ acc : List UInt8, acc.length ≤ 1000000 → acc ++ [44, 10] = a ++ prM (mD nm' h' n') →
    RY (Task.at_ 31 0 [true, true, false, false, true, false, false, true, false, true, true, true, true, true, true, true] (sv 125 [(1, V.p 0 0), (4, V.d (D.s acc)), (5, V.d (D.i IntKind.i64 (p.length : Int)))]) [] [dO kd nm ty ck cn cu cs cb cl fb fl mb ml ex tb tl]) =
     some (.d (.s (a ++ ((mD nm' h' n' :: r).map prM).flatten ++ (fl.map prL).flatten ++ (tl.map prMe).flatten ++ [125, 10])), []) := by
   intro acc hacc hq
   rw [RY, y31_at117119, st_if (by omega), hq, w1]
   refine (st_ret ih).trans ?_
   simp only [List.map_cons, List.flatten_cons, List.append_assoc]
  rw [RY, y31_at1407, st_t (by omega), st_if (by omega), yc_S (w := 3) (j := 0) (s := nm') g rfl rfl, st_if (by simp; omega), yc_B (w := 3) (j := 1) (s := h') g rfl rfl]
  cases h' with
  | true =>
   rw [st_T, st_if (by simp; omega), yc_I (w := 3) (j := 2) (s := n') g rfl rfl, st_S (tenY n' h2), st_if (by simp; omega)]
   refine st_ret (step _ (by simp; omega) ?_)
   simp [prM, List.append_assoc]
  | false =>
   rw [st_F]
   refine st_ret (step _ (by simp; omega) ?_)
   simp [prM, List.append_assoc]
end
def exB (ex : List UInt8) : List UInt8 := if ex = [] then [] else [32, 101, 120, 116, 101, 110, 100, 115, 32] ++ ex
theorem rdef_s : PrOk 31 WD prD := by
 intro x hx hl
 obtain ⟨kd, nm, ty, ck, cn, cu, cs, cb, cl, fb, fl, mb, ml, ex, tb, tl, rfl, k1, k7, hnm, hty, hk3, hwc, hfl, hf, hml, hm, hex, htl, ht, n2, n4, n7⟩ := hx
 obtain ⟨k, rfl⟩ : ∃ k : Nat, kd = (k : Int) := ⟨kd.toNat, by omega⟩
 have hwd : ∃ w : List UInt8, ([D.s [], D.s [116, 121, 112, 101, 100, 101, 102, 32], D.s [101, 110, 117, 109, 32], D.s [99, 111, 110, 115, 116, 32], D.s [115, 116, 114, 117, 99, 116, 32], D.s [117, 110, 105, 111, 110, 32], D.s [101, 120, 99, 101, 112, 116, 105, 111, 110, 32], D.s [115, 101, 114, 118, 105, 99, 101, 32]] : List D)[k]? = some (.s w) ∧ w.length ≤ 10 ∧
   (k = 1 → w = [116, 121, 112, 101, 100, 101, 102, 32]) ∧ (k = 3 → w = [99, 111, 110, 115, 116, 32]) ∧ (k = 2 → w = [101, 110, 117, 109, 32]) ∧ (k = 7 → w = [115, 101, 114, 118, 105, 99, 101, 32]) ∧ (4 ≤ k ∧ k ≤ 6 → w = kwB k) := by
  have hk : k < 8 := by omega
  rcases k with _ | _ | _ | _ | _ | _ | _ | _ | k
  all_goals first
   | (refine ⟨_, rfl, ?_, ?_, ?_, ?_, ?_, ?_⟩ <;> simp [kwB]; done)
   | omega
 obtain ⟨w, gw, hw10, e1, e3, e2, e7, e46⟩ := hwd
 rw [RY, y31, yl_S gw]
 have gen : ∀ acc : List UInt8, (acc ++ [32, 123, 10] ++ (ml.map prM).flatten ++ (fl.map prL).flatten ++ (tl.map prMe).flatten).length ≤ 900000 →
   RY (Task.at_ 31 0 [true, true, true, true, true, true] (sv 125 [(1, V.p 0 0), (4, V.d (D.s acc))]) [] [dO k nm ty ck cn cu cs cb cl fb fl mb ml ex tb tl]) =
    some (.d (.s (acc ++ [32, 123, 10] ++ (ml.map prM).flatten ++ (fl.map prL).flatten ++ (tl.map prMe).flatten ++ [125, 10])), []) := by
  intro acc hacc
  have hacc' := hacc
  simp only [List.length_append] at hacc'
  rw [RY, y31_at127, st_if (by omega)]
  exact st_ret (rdef1407 k nm ty ck cn cu cs cb cl fb fl mb ml ex tb tl ht htl hf hfl hm hml ml [] _ rfl hacc)
 simp only [prD] at hl ⊢
 by_cases c1 : (k : Int) = 1
 ·have := e1 (by omega); subst this
  rw [st_eq c1, if_pos c1, st_if (by simp; omega), st_if (by simp; omega), st_if (by simp; omega), st_if (by simp; omega)]; rfl
 by_cases c3 : (k : Int) = 3
 ·have := e3 (by omega); subst this
  rw [if_neg c1, if_pos c3] at hl
  rw [st_ne c1, st_eq c3, if_neg c1, if_pos c3, st_if (by simp; omega), st_if (by simp; omega), st_if (by simp; omega), st_if (by simp; omega)]
  have hcl : (prC (cD ck cn cu cs cb cl)).length ≤ 900000 := by simp only [cD, List.length_append] at hl ⊢; omega
  refine (st_S (rconst_s deepC _ hwc (hk3 (by omega)) hcl)).trans ?_
  rw [st_if (by simp; omega), st_if (by simp; omega)]; rfl
 rw [st_ne c1, st_ne c3, if_neg c1, if_neg c3, st_if (by omega)]
 rw [if_neg c1, if_neg c3] at hl
 by_cases c2 : (k : Int) = 2
 ·obtain ⟨rfl, rfl, rfl⟩ := n2 c2
  have := e2 (by omega); subst this
  rw [if_pos c2] at hl ⊢
  have hg := gen ([101, 110, 117, 109, 32] ++ nm) (by simp only [List.length_append, List.map_nil, List.flatten_nil, List.append_nil] at hl ⊢; omega)
  simp only [List.map_nil, List.flatten_nil, List.append_nil] at hg
  rw [show (!([] : List UInt8) == []) = false from rfl, st_F]
  exact st_ret hg
 rw [if_neg c2] at hl ⊢
 by_cases c7 : (k : Int) = 7
 ·obtain ⟨rfl, rfl⟩ := n7 c7
  have := e7 (by omega); subst this
  rw [if_pos c7] at hl ⊢
  by_cases hx : ex = []
  ·subst hx
   rw [if_pos rfl] at hl ⊢
   simp only [List.append_nil] at hl ⊢
   have hg := gen ([115, 101, 114, 118, 105, 99, 101, 32] ++ nm) (by simp only [List.length_append, List.map_nil, List.flatten_nil, List.append_nil] at hl ⊢; omega)
   simp only [List.map_nil, List.flatten_nil, List.append_nil] at hg
   rw [show (!([] : List UInt8) == []) = false from rfl, st_F]
   exact st_ret hg
  ·rw [if_neg hx] at hl ⊢
   have hg := gen ([115, 101, 114, 118, 105, 99, 101, 32] ++ nm ++ [32, 101, 120, 116, 101, 110, 100, 115, 32] ++ ex) (by simp only [List.length_append, List.map_nil, List.flatten_nil, List.append_nil] at hl ⊢; omega)
   simp only [List.map_nil, List.flatten_nil, List.append_nil] at hg
   rw [st_bt (by simpa using hx), st_if (by simp; omega), st_if (by simp; omega)]
   refine (st_ret hg).trans ?_
   simp only [List.append_assoc]
 ·obtain ⟨rfl, rfl, rfl⟩ := n4 (by omega)
  have := e46 (by omega); subst this
  rw [if_neg c7] at hl ⊢
  have hg := gen (kwB k ++ nm) (by simp only [List.length_append, List.map_nil, List.flatten_nil, List.append_nil] at hl ⊢; omega)
  simp only [List.map_nil, List.flatten_nil, List.append_nil] at hg
  rw [show (!([] : List UInt8) == []) = false from rfl, st_F]
  exact st_ret hg
section
variable (ib : Bool) (il : List D) (sb : Bool) (sl : List D) (db : Bool) (dl : List D)
abbrev fiO (ib : Bool) (il : List D) (sb : Bool) (sl : List D) (db : Bool) (dl : List D) : Ob := Ob.cells [V.d (D.l ib il), V.d (D.l sb sl), V.d (D.l db dl)] []
theorem rfile175 (h : ∀ y ∈ dl, WD y) (hl : dl.length ≤ 100) : ∀ (r p : List D) (a : List UInt8), p ++ r = dl → (a ++ (r.map prD).flatten).length ≤ 900000 →
  RY (Task.at_ 13 0 [false, true, false, true, true, true, true] (sv 64 [(1, V.p 0 0), (3, V.d (D.s a)), (6, V.d (D.i IntKind.i64 (p.length : Int)))]) [] [fiO ib il sb sl db dl]) = some (.d (.s (a ++ (r.map prD).flatten)), [])
 | [], p, a, e, ha => by
  rw [List.append_nil] at e
  subst e
  simp only [List.map_nil, List.flatten_nil, List.append_nil] at ha ⊢
  rw [RY, y13_at175, st_f (by omega)]; rfl
 | x :: r, p, a, e, ha => by
  have hlen : dl.length = p.length + (r.length + 1) := by rw [← e]; simp
  have w1 : IntKind.i64.wrap ((p.length : Int) + 1) = ((p.length + 1 : Nat) : Int) := by rw [wrap_i64] <;> omega
  have hx : x ∈ dl := by rw [← e]; simp
  have g : dl[p.length]? = some x := by rw [← e]; simp
  simp only [List.map_cons, List.flatten_cons, List.length_append] at ha
  have hc := rdef_s x (h x hx) (by omega)
  have hwd := h x hx
  have ih := rfile175 h hl r (p ++ [x]) (a ++ prD x) (by rw [← e]; simp) (by simp only [List.length_append]; omega)
  rw [show (p ++ [x]).length = p.length + 1 by simp] at ih
  have hw12 : x.width = 12 := by obtain ⟨_, _, _, _, _, _, _, _, _, _, _, _, _, _, _, _, rfl, _⟩ := hwd; rfl
  rw [RY, y13_at175, st_t (by omega)]
  refine (y_el g hw12).trans ?_
  obtain ⟨_, _, _, _, _, _, _, _, _, _, _, _, _, _, _, _, rfl, _⟩ := hwd
  refine (st_S hc).trans ?_
  rw [st_if (by omega), w1]
  refine (st_ret ih).trans ?_
  simp only [List.map_cons, List.flatten_cons, List.append_assoc]
theorem rfile87 (hd : ∀ y ∈ dl, WD y) (hdl : dl.length ≤ 100) (h : ∀ y ∈ sl, WS y) (hl : sl.length ≤ 100) : ∀ (r p : List D) (a : List UInt8), p ++ r = sl → (a ++ (r.map prS).flatten ++ (dl.map prD).flatten).length ≤ 900000 →
  RY (Task.at_ 13 0 [false, true, false, true, true, true] (sv 64 [(1, V.p 0 0), (3, V.d (D.s a)), (5, V.d (D.i IntKind.i64 (p.length : Int)))]) [] [fiO ib il sb sl db dl]) = some (.d (.s (a ++ (r.map prS).flatten ++ (dl.map prD).flatten)), [])
 | [], p, a, e, ha => by
  rw [List.append_nil] at e
  subst e
  simp only [List.map_nil, List.flatten_nil, List.append_nil] at ha ⊢
  rw [RY, y13_at87, st_f (by omega)]
  exact st_ret (rfile175 ib il sb p db dl hd hdl dl [] a rfl ha)
 | x :: r, p, a, e, ha => by
  have hlen : sl.length = p.length + (r.length + 1) := by rw [← e]; simp
  have w1 : IntKind.i64.wrap ((p.length : Int) + 1) = ((p.length + 1 : Nat) : Int) := by rw [wrap_i64] <;> omega
  have hx : x ∈ sl := by rw [← e]; simp
  have g : sl[p.length]? = some x := by rw [← e]; simp
  obtain ⟨s1, s2, rfl, h1, h2⟩ := h x hx
  simp only [List.map_cons, List.flatten_cons, List.length_append, prS] at ha
  have ih := rfile87 hd hdl h hl r (p ++ [spD s1 s2]) (a ++ prS (spD s1 s2)) (by rw [← e]; simp) (by simp only [List.length_append, prS]; omega)
  rw [show (p ++ [spD s1 s2]).length = p.length + 1 by simp] at ih
  rw [RY, y13_at87, st_t (by omega), st_if (by omega), yc_S (w := 2) (j := 0) (s := s1) g rfl rfl, st_if (by simp; omega), st_if (by simp; omega), yc_S (w := 2) (j := 1) (s := s2) g rfl rfl, st_if (by simp; omega), st_if (by simp; omega), w1]
  rw [show a ++ [110, 97, 109, 101, 115, 112, 97, 99, 101, 32] ++ s1 ++ [32] ++ s2 ++ [10] = a ++ prS (spD s1 s2) by simp [prS, List.append_assoc]]
  refine (st_ret ih).trans ?_
  simp only [List.map_cons, List.flatten_cons, List.append_assoc]
theorem rfile43 (hd : ∀ y ∈ dl, WD y) (hdl : dl.length ≤ 100) (hs : ∀ y ∈ sl, WS y) (hsl : sl.length ≤ 100) (h : ∀ y ∈ il, WI y) (hl : il.length ≤ 100) : ∀ (r p : List D) (a : List UInt8), p ++ r = il → (a ++ (r.map prI).flatten ++ (sl.map prS).flatten ++ (dl.map prD).flatten).length ≤ 900000 →
  RY (Task.at_ 13 0 [false, true, false, true, true] (sv 64 [(1, V.p 0 0), (3, V.d (D.s a)), (4, V.d (D.i IntKind.i64 (p.length : Int)))]) [] [fiO ib il sb sl db dl]) = some (.d (.s (a ++ (r.map prI).flatten ++ (sl.map prS).flatten ++ (dl.map prD).flatten)), [])
 | [], p, a, e, ha => by
  rw [List.append_nil] at e
  subst e
  simp only [List.map_nil, List.flatten_nil, List.append_nil] at ha ⊢
  rw [RY, y13_at43, st_f (by omega)]
  exact st_ret (rfile87 ib p sb sl db dl hd hdl hs hsl sl [] a rfl ha)
 | x :: r, p, a, e, ha => by
  have hlen : il.length = p.length + (r.length + 1) := by rw [← e]; simp
  have w1 : IntKind.i64.wrap ((p.length : Int) + 1) = ((p.length + 1 : Nat) : Int) := by rw [wrap_i64] <;> omega
  have hx : x ∈ il := by rw [← e]; simp
  have g : il[p.length]? = some x := by rw [← e]; simp
  obtain ⟨s1, rfl, h1, h2⟩ := h x hx
  simp only [List.map_cons, List.flatten_cons, List.length_append, prI] at ha
  have ih := rfile43 hd hdl hs hsl h hl r (p ++ [D.s s1]) (a ++ prI (D.s s1)) (by rw [← e]; simp) (by simp only [List.length_append, prI]; omega)
  rw [show (p ++ [D.s s1]).length = p.length + 1 by simp] at ih
  rw [RY, y13_at43, st_t (by omega), st_if (by omega), yc_S (w := 1) (j := 0) (s := s1) g rfl rfl, st_if (by simp; omega), st_if (by simp; omega), w1]
  rw [show a ++ [105, 110, 99, 108, 117, 100, 101, 32, 34] ++ s1 ++ [34, 10] = a ++ prI (D.s s1) by simp [prI, List.append_assoc]]
  refine (st_ret ih).trans ?_
  simp only [List.map_cons, List.flatten_cons, List.append_assoc]
end
theorem rfile_s : PrOk 13 WFi prFi := by
 intro x hx hl
 obtain ⟨ib, il, sb, sl, db, dl, rfl, h1, h2, h3, h4, h5, h6⟩ := hx
 simp only [prFi] at hl ⊢
 rw [RY, y13]
 have := rfile43 ib il sb sl db dl h6 h3 h5 h2 h4 h1 il [] [] rfl (by simpa using hl)
 exact st_ret this
end Go.Dn.Dec
namespace Go.Dn.Dec
open Go.Proofs
set_option linter.unusedVariables false
set_option linter.unusedSimpArgs false
def CW (c : V) : Prop := c = V.d D.np ∨ c = V.p 1 0
abbrev wfl : Fl := [(1, 21000001), (73, 2000000)]
abbrev wcs (c : V) (b : Bool) (t : List UInt8) : List V := [c, V.d (D.l b (ofBytes t))]
def Put (d : List V) (T : List V → Task) (t u : List UInt8) : Prop := ∀ c b, CW c → ∃ c' b', CW c' ∧ RY (T (wcs c b t)) = some (.t [], [Ob.cells (wcs c' b' (t ++ u)) wfl, Ob.cells d []])
theorem so_W {f : Task → Option Out} {t : Task} {cs ds : List V} {m n : Nat} {K : List V → List V → Tr} (h : f t = some (.t [], [.cells cs wfl, .cells ds []])) (hm : cs.length = m) (hn : ds.length = n) :
  interp f (.call t fun o => unCons o.snd fun x l2 => unCells x fun c g => ift (c.length == m) (ift (g == wfl) (unCons l2 fun x5 l6 => unCells x5 fun c7 g8 => ift (c7.length == n) (ift (g8 == []) (unNil l6 (unT o.fst fun v => ift (v.length == 0) (K c c7))))))) = interp f (K cs ds) := by
 rw [st_call h]
 show interp f (ift (cs.length == m) (ift (wfl == wfl) (ift (ds.length == n) (ift true (ift true (K cs ds)))))) = _
 rw [hm, beq_self_eq_true, st_ift, show (wfl == wfl) = true from rfl, st_ift, hn, beq_self_eq_true, st_ift, st_ift, st_ift]
theorem so_W2 {f : Task → Option Out} {t : Task} {cs ds : List V} {m n : Nat} {q : Int} {K : List V → List V → Tr} (h : f t = some (.t [.d (.i .i64 q), .nifc], [.cells cs wfl, .cells ds []])) (hm : cs.length = m) (hn : ds.length = n) :
  interp f (.call t fun o => unCons o.snd fun x l2 => unCells x fun c g => ift (c.length == m) (ift (g == wfl) (unCons l2 fun x5 l6 => unCells x5 fun c7 g8 => ift (c7.length == n) (ift (g8 == []) (unNil l6 (unT o.fst fun v => ift (v.length == 2) (asD (v.getD 0 (V.d (D.b false))) fun (d : D) => asI IntKind.i64 d fun (y : Int) => ift (decide (bnd (V.t [V.d (D.i IntKind.i64 y), v.getD 1 (V.d (D.b false))]) ≤ 2)) (K c c7))))))))
   = interp f (K cs ds) := by
 rw [st_call h]
 show interp f (ift (cs.length == m) (ift (wfl == wfl) (ift (ds.length == n) (ift true (ift true (asI IntKind.i64 (.i .i64 q) fun (y : Int) => ift (decide (bnd (V.t [V.d (D.i IntKind.i64 y), V.nifc]) ≤ 2)) (K cs ds))))))) = _
 rw [hm, beq_self_eq_true, st_ift, show (wfl == wfl) = true from rfl, st_ift, hn, beq_self_eq_true, st_ift, st_ift, st_ift, st_asI]
 exact st_ift
theorem asD_L {f : Task → Option Out} {v : V} {b : Bool} {l : List D} {K : Bool → List D → Tr} (h : v = .d (.l b l)) : interp f (asD v fun d => asL d K) = interp f (K b l) := by subst h; rfl
theorem ofBytes_append (a b : List UInt8) : ofBytes (a ++ b) = ofBytes a ++ ofBytes b := by simp [ofBytes]
theorem head_of (s : List UInt8) : headOk 1 (ofBytes s) = true := by cases s <;> rfl
theorem one_of (s : List UInt8) : oneAll (ofBytes s) = true := by
 simp [oneAll, ofBytes, D.cells, V.one]
theorem len_of (s : List UInt8) : (ofBytes s).length = s.length := by simp [ofBytes]
theorem copyY (d : List V) (c x : V) (hc : CW c) : RY (Task.call 122 [V.p 1 0] [Ob.cells [c, x] wfl, Ob.cells d []]) = some (.t [], [Ob.cells [V.p 1 0, x] wfl, Ob.cells d []]) := by
 rw [ext_callY (g := copyExt) rfl]
 rcases hc with rfl | rfl <;> rfl
theorem write_s (d : List V) (s t : List UInt8) (h : t.length + s.length ≤ 1000000) (c : V) (b : Bool) (hc : CW c) :
  RY (Task.call 56 [V.p 1 0, V.d (D.s s)] [Ob.cells (wcs c b t) wfl, Ob.cells d []]) = some (.t [.d (.i .i64 (s.length : Int)), .nifc], [Ob.cells (wcs (V.p 1 0) (b && (ofBytes s).isEmpty) (t ++ s)) wfl, Ob.cells d []]) := by
 rw [RY, y56]
 refine (so_W (copyY d c _ hc) rfl rfl).trans ?_
 refine (st_ob rfl).trans ?_
 refine (asD_L (b := b) (l := ofBytes t) rfl).trans ?_
 rw [head_of, st_ift, head_of, st_ift, one_of, Bool.or_true, st_ift, st_if (by rw [len_of, len_of]; omega)]
 refine st_ift.trans ?_
 rw [interp_ret, ← ofBytes_append]; rfl
theorem put_loop (d : List V) (l : List (List UInt8)) (fb : Bool) (hl : l.length ≤ 1000) : ∀ (r p : List (List UInt8)) (t : List UInt8), p ++ r = l → t.length + r.flatten.length ≤ 1000000 →
  Put d (fun cs => Task.at_ 27 2 [false, true] (sv 18 [(0, V.p 1 0), (6, V.d (D.l fb (l.map D.s))), (7, V.d (D.i IntKind.i64 (l.length : Int))), (8, V.d (D.i IntKind.i64 (p.length : Int)))]) [] [Ob.cells cs wfl, Ob.cells d []]) t r.flatten
 | [], p, t, e, h => fun c b hc => by
  refine ⟨c, b, hc, ?_⟩
  rw [List.append_nil] at e
  subst e
  rw [RY, y27_at5, st_f (by omega)]
  simp only [List.flatten_nil, List.append_nil, interp_ret]
 | s :: r, p, t, e, h => fun c b hc => by
  have hlen : l.length = p.length + (r.length + 1) := by rw [← e]; simp
  have w1 : IntKind.i64.wrap ((p.length : Int) + 1) = ((p.length + 1 : Nat) : Int) := by rw [wrap_i64] <;> omega
  have g : (l.map D.s)[p.length]? = some (.s s) := by rw [← e]; simp
  rw [List.flatten_cons, List.length_append] at h
  obtain ⟨c', b', hc', h'⟩ := put_loop d l fb hl r (p ++ [s]) (t ++ s) (by rw [← e]; simp) (by rw [List.length_append]; omega) (V.p 1 0) (b && (ofBytes s).isEmpty) (.inr rfl)
  refine ⟨c', b', hc', ?_⟩
  rw [show (p ++ [s]).length = p.length + 1 by simp] at h'
  rw [RY, y27_at5, st_t (by omega), yl_S g]
  refine (so_W2 (write_s d s t (by omega) c b hc) rfl rfl).trans ?_
  rw [w1, List.flatten_cons, ← List.append_assoc]
  exact st_ret h'
theorem put_s (d : List V) {ls : List D} (l : List (List UInt8)) (hl : ls = l.map D.s) (hn : l.length ≤ 1000) (t : List UInt8) {u : List UInt8} (hu : l.flatten = u) (h : t.length + u.length ≤ 1000000) :
  Put d (fun cs => Task.call 27 [V.p 1 0, V.d (D.l true ls)] [Ob.cells cs wfl, Ob.cells d []]) t u := fun c b hc => by
 subst hl; subst hu
 obtain ⟨c', b', hc', h'⟩ := put_loop d l true hn l [] t rfl h c b hc
 refine ⟨c', b', hc', ?_⟩
 rw [RY, y27, List.length_map]
 exact st_ret h'
theorem pmember15 (d : List V) (t : List UInt8) (h : t.length + 2 ≤ 1000000) : Put d (fun cs => Task.at_ 58 2 [true, true, true] (sv 20 [(0, V.p 1 0)]) [] [Ob.cells cs wfl, Ob.cells d []]) t [44, 10] := fun c b hc => by
 obtain ⟨c', b', hc', h'⟩ := put_s d [[44, 10]] rfl (by simp) t rfl h c b hc
 refine ⟨c', b', hc', ?_⟩
 rw [RY, y58_at15]
 refine (so_W h' rfl rfl).trans ?_
 rfl
theorem pmember_s (d : List V) (x : D) (hx : WM x) (t : List UInt8) (h : t.length + (prM x).length ≤ 900000) : Put d (fun cs => Task.call 58 [V.p 1 0, V.d x] [Ob.cells cs wfl, Ob.cells d []]) t (prM x) := fun c b hc => by
 obtain ⟨nm, hh, n, rfl, h1, h2⟩ := hx
 simp only [prM, List.length_append, List.length_cons, List.length_nil] at h
 obtain ⟨c1, b1, hc1, e1⟩ := put_s d (ls := [D.s [32, 32], D.s nm]) [[32, 32], nm] rfl (by simp) t (u := [32, 32] ++ nm) (by simp) (by simp; omega) c b hc
 cases hh with
 | true =>
  obtain ⟨c2, b2, hc2, e2⟩ := put_s d (ls := [D.s [32, 61, 32], D.s (decI n)]) [[32, 61, 32], decI n] rfl (by simp) (t ++ ([32, 32] ++ nm)) (u := [32, 61, 32] ++ decI n) (by simp) (by simp at h ⊢; omega) c1 b1 hc1
  obtain ⟨c3, b3, hc3, e3⟩ := pmember15 d (t ++ ([32, 32] ++ nm) ++ ([32, 61, 32] ++ decI n)) (by simp at h ⊢; omega) c2 b2 hc2
  refine ⟨c3, b3, hc3, ?_⟩
  rw [RY, y58]
  refine (so_W e1 rfl rfl).trans ?_
  rw [st_T, st_S (fmtY n h2)]
  refine (so_W e2 rfl rfl).trans ?_
  refine (st_ret e3).trans ?_
  simp [prM, List.append_assoc]
 | false =>
  obtain ⟨c3, b3, hc3, e3⟩ := pmember15 d (t ++ ([32, 32] ++ nm)) (by simp at h ⊢; omega) c1 b1 hc1
  refine ⟨c3, b3, hc3, ?_⟩
  rw [RY, y58]
  refine (so_W e1 rfl rfl).trans ?_
  rw [st_F]
  refine (st_ret e3).trans ?_
  simp [prM, List.append_assoc]
abbrev mO (nm : List UInt8) (ow : Bool) (ret : List UInt8) (ab : Bool) (al : List D) (tb : Bool) (tl : List D) : Ob := Ob.cells [V.d (D.s nm), V.d (D.b ow), V.d (D.s ret), V.d (D.l ab al), V.d (D.l tb tl)] []
theorem pmethod63 (d : List V) (t : List UInt8) (h : t.length + 2 ≤ 1000000) : Put d (fun cs => Task.at_ 60 2 [true, true, true, true, true] (sv 35 [(0, V.p 1 0)]) [] [Ob.cells cs wfl, Ob.cells d []]) t [44, 10] := fun c b hc => by
 obtain ⟨c', b', hc', h'⟩ := put_s d [[44, 10]] rfl (by simp) t rfl h c b hc
 refine ⟨c', b', hc', ?_⟩
 rw [RY, y60_at63]
 refine (so_W h' rfl rfl).trans ?_
 rfl
theorem pmethod15 (d : List V) (nm : List UInt8) (ow : Bool) (ret : List UInt8) (ab : Bool) (al : List D) (tb : Bool) (tl : List D) (h3 : al.length ≤ 100) (h4 : tl.length ≤ 100) (h5 : ∀ y ∈ al, WF y) (h6 : ∀ y ∈ tl, WF y)
  (ha : (prFs al).length ≤ 900000) (ht : (prFs tl).length ≤ 900000) (t : List UInt8) (h : t.length + (ret ++ [32] ++ nm ++ [40] ++ prFs al ++ [41] ++ thB tl ++ [44, 10]).length ≤ 900000) :
  Put d (fun cs => Task.at_ 60 2 [true, true, true] (sv 35 [(0, V.p 1 0), (3, V.p 2 0)]) [] [mO nm ow ret ab al tb tl, Ob.cells cs wfl, Ob.cells d []]) t (ret ++ [32] ++ nm ++ [40] ++ prFs al ++ [41] ++ thB tl ++ [44, 10]) := fun c b hc => by
 have k1 := pfs_s ab al h3 h5 ha
 have k2 := pfs_s tb tl h4 h6 ht
 simp only [List.length_append, List.length_cons, List.length_nil] at h
 obtain ⟨c1, b1, hc1, e1⟩ := put_s d (ls := [D.s ret, D.s [32], D.s nm, D.s [40], D.s (prFs al), D.s [41]]) [ret, [32], nm, [40], prFs al, [41]] rfl (by simp) t (u := (ret ++ [32] ++ nm ++ [40] ++ prFs al ++ [41])) (by simp) (by simp; omega) c b hc
 by_cases h0 : tl = []
 ·subst h0
  obtain ⟨c3, b3, hc3, e3⟩ := pmethod63 d (t ++ (ret ++ [32] ++ nm ++ [40] ++ prFs al ++ [41])) (by simp; omega) c1 b1 hc1
  refine ⟨c3, b3, hc3, ?_⟩
  rw [RY, y60_at15, st_S k1]
  refine (so_W e1 rfl rfl).trans ?_
  rw [st_f (by simp)]
  refine (st_ret e3).trans ?_
  simp [thB, List.append_assoc]
 ·have hp : 0 < tl.length := List.length_pos_iff.2 h0
  rw [thB, if_neg h0, List.length_append, List.length_append] at h
  obtain ⟨c2, b2, hc2, e2⟩ := put_s d (ls := [D.s [32, 116, 104, 114, 111, 119, 115, 32, 40], D.s (prFs tl), D.s [41]]) [[32, 116, 104, 114, 111, 119, 115, 32, 40], prFs tl, [41]] rfl (by simp) (t ++ (ret ++ [32] ++ nm ++ [40] ++ prFs al ++ [41])) (u := ([32, 116, 104, 114, 111, 119, 115, 32, 40] ++ prFs tl ++ [41])) (by simp) (by simp at h ⊢; omega) c1 b1 hc1
  obtain ⟨c3, b3, hc3, e3⟩ := pmethod63 d (t ++ (ret ++ [32] ++ nm ++ [40] ++ prFs al ++ [41]) ++ ([32, 116, 104, 114, 111, 119, 115, 32, 40] ++ prFs tl ++ [41])) (by simp at h ⊢; omega) c2 b2 hc2
  refine ⟨c3, b3, hc3, ?_⟩
  rw [RY, y60_at15, st_S k1]
  refine (so_W e1 rfl rfl).trans ?_
  rw [st_t (by omega), st_S k2]
  refine (so_W e2 rfl rfl).trans ?_
  refine (st_ret e3).trans ?_
  simp [thB, if_neg h0, List.append_assoc]
theorem pmethod_s (d : List V) (x : D) (hx : WMe x) (t : List UInt8) (h : t.length + (prMe x).length ≤ 900000) : Put d (fun cs => Task.call 60 [V.p 1 0, V.d x] [Ob.cells cs wfl, Ob.cells d []]) t (prMe x) := fun c b hc => by
 obtain ⟨nm, ow, ret, ab, al, tb, tl, rfl, h1, h2, h3, h4, h5, h6⟩ := hx
 rw [prMe_eq] at h ⊢
 have ha : (prFs al).length ≤ 900000 := by simp only [List.length_append] at h; omega
 have hl : ([32, 32] ++ owB ow ++ ret ++ [32] ++ nm ++ [40] ++ prFs al ++ [41] ++ thB tl ++ [44, 10]).length ≤ 900000 := by omega
 have ht := th_len hl
 obtain ⟨c1, b1, hc1, e1⟩ := put_s d (ls := [D.s [32, 32]]) [[32, 32]] rfl (by simp) t (u := [32, 32]) rfl (by simp at h ⊢; omega) c b hc
 cases ow with
 | true =>
  obtain ⟨c2, b2, hc2, e2⟩ := put_s d (ls := [D.s [111, 110, 101, 119, 97, 121, 32]]) [[111, 110, 101, 119, 97, 121, 32]] rfl (by simp) (t ++ [32, 32]) (u := [111, 110, 101, 119, 97, 121, 32]) rfl (by simp [owB] at h ⊢; omega) c1 b1 hc1
  obtain ⟨c3, b3, hc3, e3⟩ := pmethod15 d nm true ret ab al tb tl h3 h4 h5 h6 ha ht (t ++ [32, 32] ++ [111, 110, 101, 119, 97, 121, 32]) (by simp [owB] at h ⊢; omega) c2 b2 hc2
  refine ⟨c3, b3, hc3, ?_⟩
  rw [RY, y60]
  refine (so_W e1 rfl rfl).trans ?_
  rw [st_T]
  refine (so_W e2 rfl rfl).trans ?_
  refine (st_ret e3).trans ?_
  simp [owB, List.append_assoc]
 | false =>
  obtain ⟨c3, b3, hc3, e3⟩ := pmethod15 d nm false ret ab al tb tl h3 h4 h5 h6 ha ht (t ++ [32, 32]) (by simp [owB] at h ⊢; omega) c1 b1 hc1
  refine ⟨c3, b3, hc3, ?_⟩
  rw [RY, y60]
  refine (so_W e1 rfl rfl).trans ?_
  rw [st_F]
  refine (st_ret e3).trans ?_
  simp [owB, List.append_assoc]
end Go.Dn.Dec
namespace Go.Dn.Dec
open Go.Proofs
set_option linter.unusedVariables false
set_option linter.unusedSimpArgs false
theorem wm_width {x : D} (h : WM x) : x.width = 3 := by obtain ⟨_, _, _, rfl, _⟩ := h; rfl
theorem wme_width {x : D} (h : WMe x) : x.width = 5 := by obtain ⟨_, _, _, _, _, _, _, rfl, _⟩ := h; rfl
theorem wd_width {x : D} (h : WD x) : x.width = 12 := by obtain ⟨_, _, _, _, _, _, _, _, _, _, _, _, _, _, _, _, rfl, _⟩ := h; rfl
theorem pdef11003 (d : List V) (l : List D) (lb : Bool) (hl : l.length ≤ 100) (hm : ∀ y ∈ l, WM y) : ∀ (r p : List D) (t : List UInt8), p ++ r = l → t.length + (r.map prM).flatten.length + 2 ≤ 900000 →
  Put d (fun cs => Task.at_ 29 2 [false, true, false, true, false, true, true, true, true, true, false, true, true] (sv 117 [(0, V.p 1 0), (41, V.d (D.l lb l)), (42, V.d (D.i IntKind.i64 (l.length : Int))), (43, V.d (D.i IntKind.i64 (p.length : Int)))]) [] [Ob.cells cs wfl, Ob.cells d []]) t ((r.map prM).flatten ++ [125, 10])
 | [], p, t, e, h => fun c b hc => by
  rw [List.append_nil] at e
  subst e
  obtain ⟨c1, b1, hc1, e1⟩ := put_s d (ls := [D.s [125, 10]]) [[125, 10]] rfl (by simp) t (u := [125, 10]) rfl (by simp at h ⊢; omega) c b hc
  refine ⟨c1, b1, hc1, ?_⟩
  rw [RY, y29_at11003, st_f (by omega)]
  refine (so_W e1 rfl rfl).trans ?_
  rfl
 | x :: r, p, t, e, h => fun c b hc => by
  have hlen : l.length = p.length + (r.length + 1) := by rw [← e]; simp
  have w1 : IntKind.i64.wrap ((p.length : Int) + 1) = ((p.length + 1 : Nat) : Int) := by rw [wrap_i64] <;> omega
  have hx := hm x (by rw [← e]; simp)
  have g : l[p.length]? = some x := by rw [← e]; simp
  simp only [List.map_cons, List.flatten_cons, List.length_append] at h
  obtain ⟨c1, b1, hc1, e1⟩ := pmember_s d x hx t (by omega) c b hc
  obtain ⟨c2, b2, hc2, e2⟩ := pdef11003 d l lb hl hm r (p ++ [x]) (t ++ prM x) (by rw [← e]; simp) (by simp only [List.length_append]; omega) c1 b1 hc1
  rw [show (p ++ [x]).length = p.length + 1 by simp] at e2
  refine ⟨c2, b2, hc2, ?_⟩
  rw [RY, y29_at11003, st_t (by omega)]
  refine (y_el g (wm_width hx)).trans ?_
  obtain ⟨nm, hh, n, rfl, _⟩ := hx
  refine st_ift.trans ?_
  refine (so_W e1 rfl rfl).trans ?_
  rw [w1]
  refine (st_ret e2).trans ?_
  simp only [List.map_cons, List.flatten_cons, List.append_assoc]
theorem pdef44027 (d : List V) (l : List D) (lb : Bool) (hl : l.length ≤ 100) (hm : ∀ y ∈ l, WF y) : ∀ (r p : List D) (t : List UInt8), p ++ r = l → t.length + (r.map prL).flatten.length + 2 ≤ 900000 →
  Put d (fun cs => Task.at_ 29 2 [false, true, false, true, false, true, true, true, true, true, true, true, false, true, true] (sv 117 [(0, V.p 1 0), (70, V.d (D.l lb l)), (71, V.d (D.i IntKind.i64 (l.length : Int))), (72, V.d (D.i IntKind.i64 (p.length : Int)))]) [] [Ob.cells cs wfl, Ob.cells d []]) t ((r.map prL).flatten ++ [125, 10])
 | [], p, t, e, h => fun c b hc => by
  rw [List.append_nil] at e
  subst e
  obtain ⟨c1, b1, hc1, e1⟩ := put_s d (ls := [D.s [125, 10]]) [[125, 10]] rfl (by simp) t (u := [125, 10]) rfl (by simp at h ⊢; omega) c b hc
  refine ⟨c1, b1, hc1, ?_⟩
  rw [RY, y29_at44027, st_f (by omega)]
  refine (so_W e1 rfl rfl).trans ?_
  rfl
 | x :: r, p, t, e, h => fun c b hc => by
  have hlen : l.length = p.length + (r.length + 1) := by rw [← e]; simp
  have w1 : IntKind.i64.wrap ((p.length : Int) + 1) = ((p.length + 1 : Nat) : Int) := by rw [wrap_i64] <;> omega
  have hx := hm x (by rw [← e]; simp)
  have g : l[p.length]? = some x := by rw [← e]; simp
  simp only [List.map_cons, List.flatten_cons, List.length_append] at h
  have hxl : (prL x).length = (prF x).length + 4 := by simp [prL]
  have hc0 := pfield_s x hx (by omega)
  obtain ⟨c1, b1, hc1, e1⟩ := put_s d (ls := [D.s [32, 32], D.s (prF x), D.s [44, 10]]) [[32, 32], prF x, [44, 10]] rfl (by simp) t (u := prL x) (by simp [prL]) (by omega) c b hc
  obtain ⟨c2, b2, hc2, e2⟩ := pdef44027 d l lb hl hm r (p ++ [x]) (t ++ prL x) (by rw [← e]; simp) (by simp only [List.length_append]; omega) c1 b1 hc1
  rw [show (p ++ [x]).length = p.length + 1 by simp] at e2
  refine ⟨c2, b2, hc2, ?_⟩
  rw [RY, y29_at44027, st_t (by omega)]
  refine (y_el g (wf_width hx)).trans ?_
  obtain ⟨_, _, _, _, _, _, _, _, _, _, _, _, rfl, _⟩ := hx
  refine st_ift.trans ?_
  refine (st_S hc0).trans ?_
  refine (so_W e1 rfl rfl).trans ?_
  rw [w1]
  refine (st_ret e2).trans ?_
  simp only [List.map_cons, List.flatten_cons, List.append_assoc]
theorem pdef716795 (d : List V) (l : List D) (lb : Bool) (hl : l.length ≤ 100) (hm : ∀ y ∈ l, WMe y) : ∀ (r p : List D) (t : List UInt8), p ++ r = l → t.length + (r.map prMe).flatten.length + 2 ≤ 900000 →
  Put d (fun cs => Task.at_ 29 2 [false, true, false, true, true, true, false, true, true, true, true, true, true, true, true, true, false, true, true] (sv 117 [(0, V.p 1 0), (104, V.d (D.l lb l)), (105, V.d (D.i IntKind.i64 (l.length : Int))), (106, V.d (D.i IntKind.i64 (p.length : Int)))]) [] [Ob.cells cs wfl, Ob.cells d []]) t ((r.map prMe).flatten ++ [125, 10])
 | [], p, t, e, h => fun c b hc => by
  rw [List.append_nil] at e
  subst e
  obtain ⟨c1, b1, hc1, e1⟩ := put_s d (ls := [D.s [125, 10]]) [[125, 10]] rfl (by simp) t (u := [125, 10]) rfl (by simp at h ⊢; omega) c b hc
  refine ⟨c1, b1, hc1, ?_⟩
  rw [RY, y29_at716795, st_f (by omega)]
  refine (so_W e1 rfl rfl).trans ?_
  rfl
 | x :: r, p, t, e, h => fun c b hc => by
  have hlen : l.length = p.length + (r.length + 1) := by rw [← e]; simp
  have w1 : IntKind.i64.wrap ((p.length : Int) + 1) = ((p.length + 1 : Nat) : Int) := by rw [wrap_i64] <;> omega
  have hx := hm x (by rw [← e]; simp)
  have g : l[p.length]? = some x := by rw [← e]; simp
  simp only [List.map_cons, List.flatten_cons, List.length_append] at h
  obtain ⟨c1, b1, hc1, e1⟩ := pmethod_s d x hx t (by omega) c b hc
  obtain ⟨c2, b2, hc2, e2⟩ := pdef716795 d l lb hl hm r (p ++ [x]) (t ++ prMe x) (by rw [← e]; simp) (by simp only [List.length_append]; omega) c1 b1 hc1
  rw [show (p ++ [x]).length = p.length + 1 by simp] at e2
  refine ⟨c2, b2, hc2, ?_⟩
  rw [RY, y29_at716795, st_t (by omega)]
  refine (y_el g (wme_width hx)).trans ?_
  obtain ⟨_, _, _, _, _, _, _, rfl, _⟩ := hx
  refine st_ift.trans ?_
  refine (so_W e1 rfl rfl).trans ?_
  rw [w1]
  refine (st_ret e2).trans ?_
  simp only [List.map_cons, List.flatten_cons, List.append_assoc]
theorem pdef61435 (d : List V) (kd : Int) (nm ty : List UInt8) (ck cn cu : Int) (cs : List UInt8) (cb : Bool) (cl : List D) (fb : Bool) (fl : List D) (mb : Bool) (ml : List D) (ex : List UInt8) (tb : Bool) (tl : List D) (hl : tl.length ≤ 100) (hm : ∀ y ∈ tl, WMe y) (t : List UInt8)
  (h : t.length + (tl.map prMe).flatten.length + 5 ≤ 900000) :
  Put d (fun c => Task.at_ 29 2 [true, true, false, true, true, true, true, true, true, true, true, true, false, true, true] (sv 117 [(0, V.p 1 0), (3, V.p 2 0)]) [] [dO kd nm ty ck cn cu cs cb cl fb fl mb ml ex tb tl, Ob.cells c wfl, Ob.cells d []]) t ([32, 123, 10] ++ (tl.map prMe).flatten ++ [125, 10]) := fun c b hc => by
 obtain ⟨c1, b1, hc1, e1⟩ := put_s d (ls := [D.s [32, 123, 10]]) [[32, 123, 10]] rfl (by simp) t (u := [32, 123, 10]) rfl (by simp; omega) c b hc
 obtain ⟨c2, b2, hc2, e2⟩ := pdef716795 d tl tb hl hm tl [] (t ++ [32, 123, 10]) rfl (by simp at h ⊢; omega) c1 b1 hc1
 refine ⟨c2, b2, hc2, ?_⟩
 rw [RY, y29_at61435]
 refine (so_W e1 rfl rfl).trans ?_
 refine (st_ret e2).trans ?_
 simp only [List.append_assoc]
theorem pdef2043_f (d : List V) (kd : Int) (nm ty : List UInt8) (ck cn cu : Int) (cs : List UInt8) (cb : Bool) (cl : List D) (fb : Bool) (fl : List D) (mb : Bool) (ml : List D) (ex : List UInt8) (tb : Bool) (tl : List D) (hl : fl.length ≤ 100) (hm : ∀ y ∈ fl, WF y) (hk : 4 ≤ kd ∧ kd ≤ 6) (n : Int) (t : List UInt8)
  (hn : nm.length ≤ 2000) (h : t.length + (kwB kd ++ nm ++ [32, 123, 10] ++ (fl.map prL).flatten ++ [125, 10]).length ≤ 900000) :
  Put d (fun c => Task.at_ 29 2 [true, true, true, true, true, true, true, false, true, true] (sv 117 [(0, V.p 1 0), (3, V.p 2 0), (11, V.d (D.i IntKind.i64 n)), (54, V.d (D.b true))]) [] [dO kd nm ty ck cn cu cs cb cl fb fl mb ml ex tb tl, Ob.cells c wfl, Ob.cells d []]) t (kwB kd ++ nm ++ [32, 123, 10] ++ (fl.map prL).flatten ++ [125, 10]) := fun c b hc => by
 simp only [List.length_append] at h
 obtain ⟨k, hk4, rfl⟩ : ∃ k : Nat, k < 3 ∧ kd = ((k + 4 : Nat) : Int) := ⟨(kd - 4).toNat, by omega, by omega⟩
 have w : IntKind.i64.wrap (((k + 4 : Nat) : Int) - 4) = (k : Int) := by rw [wrap_i64] <;> omega
 have g : ([D.s [115, 116, 114, 117, 99, 116, 32], D.s [117, 110, 105, 111, 110, 32], D.s [101, 120, 99, 101, 112, 116, 105, 111, 110, 32]] : List D)[k]? = some (.s (kwB ((k + 4 : Nat) : Int))) := by
  rcases k with _ | _ | _ | k
  all_goals first
   | rfl
   | omega
 obtain ⟨c1, b1, hc1, e1⟩ := put_s d (ls := [D.s (kwB ((k + 4 : Nat) : Int)), D.s nm, D.s [32, 123, 10]]) [kwB ((k + 4 : Nat) : Int), nm, [32, 123, 10]] rfl (by simp) t (u := kwB ((k + 4 : Nat) : Int) ++ nm ++ [32, 123, 10]) (by simp) (by simp only [List.length_append]; omega) c b hc
 obtain ⟨c2, b2, hc2, e2⟩ := pdef44027 d fl fb hl hm fl [] (t ++ (kwB ((k + 4 : Nat) : Int) ++ nm ++ [32, 123, 10])) rfl (by simp only [List.length_append, List.length_cons, List.length_nil] at h ⊢; omega) c1 b1 hc1
 refine ⟨c2, b2, hc2, ?_⟩
 rw [RY, y29_at2043, st_T, w, yl_S g]
 refine (so_W e1 rfl rfl).trans ?_
 refine (st_ret e2).trans ?_
 simp only [List.append_assoc]
theorem pdef2043_s (d : List V) (nm ty : List UInt8) (ck cn cu : Int) (cs : List UInt8) (cb : Bool) (cl : List D) (fb : Bool) (fl : List D) (mb : Bool) (ml : List D) (ex : List UInt8) (tb : Bool) (tl : List D) (hl : tl.length ≤ 100) (hm : ∀ y ∈ tl, WMe y) (t : List UInt8)
  (hn : nm.length ≤ 2000) (hex : ex.length ≤ 2000) (h : t.length + ([115, 101, 114, 118, 105, 99, 101, 32] ++ nm ++ exB ex ++ [32, 123, 10] ++ (tl.map prMe).flatten ++ [125, 10]).length ≤ 900000) :
  Put d (fun c => Task.at_ 29 2 [true, true, true, true, true, true, true, false, true, true] (sv 117 [(0, V.p 1 0), (3, V.p 2 0), (11, V.d (D.i IntKind.i64 7)), (54, V.d (D.b false))]) [] [dO 7 nm ty ck cn cu cs cb cl fb fl mb ml ex tb tl, Ob.cells c wfl, Ob.cells d []]) t ([115, 101, 114, 118, 105, 99, 101, 32] ++ nm ++ exB ex ++ [32, 123, 10] ++ (tl.map prMe).flatten ++ [125, 10]) := fun c b hc => by
 simp only [List.length_append, List.length_cons, List.length_nil] at h
 obtain ⟨c1, b1, hc1, e1⟩ := put_s d (ls := [D.s [115, 101, 114, 118, 105, 99, 101, 32], D.s nm]) [[115, 101, 114, 118, 105, 99, 101, 32], nm] rfl (by simp) t (u := [115, 101, 114, 118, 105, 99, 101, 32] ++ nm) (by simp) (by simp; omega) c b hc
 by_cases hx : ex = []
 ·subst hx
  obtain ⟨c2, b2, hc2, e2⟩ := pdef61435 d 7 nm ty ck cn cu cs cb cl fb fl mb ml [] tb tl hl hm (t ++ ([115, 101, 114, 118, 105, 99, 101, 32] ++ nm)) (by simp only [List.length_append, List.length_cons, List.length_nil]; omega) c1 b1 hc1
  refine ⟨c2, b2, hc2, ?_⟩
  rw [RY, y29_at2043, st_F, st_eq rfl]
  refine (so_W e1 rfl rfl).trans ?_
  rw [show (!([] : List UInt8) == []) = false from rfl, st_F]
  refine (st_ret e2).trans ?_
  simp only [exB, if_true, List.append_assoc, List.append_nil, List.nil_append]
 ·have he : exB ex = [32, 101, 120, 116, 101, 110, 100, 115, 32] ++ ex := if_neg hx
  obtain ⟨c3, b3, hc3, e3⟩ := put_s d (ls := [D.s [32, 101, 120, 116, 101, 110, 100, 115, 32], D.s ex]) [[32, 101, 120, 116, 101, 110, 100, 115, 32], ex] rfl (by simp) (t ++ ([115, 101, 114, 118, 105, 99, 101, 32] ++ nm)) (u := exB ex) (by simp [he]) (by simp only [List.length_append, List.length_cons, List.length_nil]; omega) c1 b1 hc1
  obtain ⟨c2, b2, hc2, e2⟩ := pdef61435 d 7 nm ty ck cn cu cs cb cl fb fl mb ml ex tb tl hl hm (t ++ ([115, 101, 114, 118, 105, 99, 101, 32] ++ nm) ++ exB ex) (by simp only [List.length_append, List.length_cons, List.length_nil]; omega) c3 b3 hc3
  refine ⟨c2, b2, hc2, ?_⟩
  rw [RY, y29_at2043, st_F, st_eq rfl]
  refine (so_W e1 rfl rfl).trans ?_
  rw [st_bt (by simpa using hx)]
  refine (so_W e3 rfl rfl).trans ?_
  refine (st_ret e2).trans ?_
  simp only [List.append_assoc]
theorem pdef_s (d : List V) (x : D) (hx : WD x) (t : List UInt8) (h : t.length + (prD x).length ≤ 900000) : Put d (fun c => Task.call 29 [V.p 1 0, V.d x] [Ob.cells c wfl, Ob.cells d []]) t (prD x) := fun c b hc => by
 obtain ⟨kd, nm, ty, ck, cn, cu, cs, cb, cl, fb, fl, mb, ml, ex, tb, tl, rfl, k1, k7, hnm, hty, hk3, hwc, hfl, hf, hml, hm, hex, htl, ht, n2, n4, n7⟩ := hx
 simp only [prD] at h ⊢
 by_cases c1 : kd = 1
 ·rw [if_pos c1] at h ⊢
  obtain ⟨c1', b1, hc1, e1⟩ := put_s d (ls := [D.s [116, 121, 112, 101, 100, 101, 102, 32], D.s ty, D.s [32], D.s nm, D.s [10]]) [[116, 121, 112, 101, 100, 101, 102, 32], ty, [32], nm, [10]] rfl (by simp) t (u := [116, 121, 112, 101, 100, 101, 102, 32] ++ ty ++ [32] ++ nm ++ [10]) (by simp) (by simp only [List.length_append] at h ⊢; omega) c b hc
  refine ⟨c1', b1, hc1, ?_⟩
  rw [RY, y29, st_eq c1]
  refine (so_W e1 rfl rfl).trans ?_
  rfl
 by_cases c3 : kd = 3
 ·rw [if_neg c1, if_pos c3] at h ⊢
  have hcl : (prC (cD ck cn cu cs cb cl)).length ≤ 900000 := by simp only [cD, List.length_append] at h ⊢; omega
  have hcon := pconst_s deepC _ hwc (hk3 c3) hcl
  obtain ⟨c1', b1, hc1, e1⟩ := put_s d (ls := [D.s [99, 111, 110, 115, 116, 32], D.s ty, D.s [32], D.s nm, D.s [32, 61, 32], D.s (prC (cD ck cn cu cs cb cl)), D.s [10]]) [[99, 111, 110, 115, 116, 32], ty, [32], nm, [32, 61, 32], prC (cD ck cn cu cs cb cl), [10]] rfl (by simp) t
   (u := [99, 111, 110, 115, 116, 32] ++ ty ++ [32] ++ nm ++ [32, 61, 32] ++ prC (cD ck cn cu cs cb cl) ++ [10]) (by simp) (by simp only [cD, List.length_append] at h ⊢; omega) c b hc
  refine ⟨c1', b1, hc1, ?_⟩
  rw [RY, y29, st_ne c1, st_eq c3]
  refine (st_S hcon).trans ?_
  refine (so_W e1 rfl rfl).trans ?_
  rfl
 rw [if_neg c1, if_neg c3] at h ⊢
 by_cases c2 : kd = 2
 ·rw [if_pos c2] at h ⊢
  simp only [List.length_append, List.length_cons, List.length_nil] at h
  obtain ⟨c1', b1, hc1, e1⟩ := put_s d (ls := [D.s [101, 110, 117, 109, 32], D.s nm, D.s [32, 123, 10]]) [[101, 110, 117, 109, 32], nm, [32, 123, 10]] rfl (by simp) t (u := [101, 110, 117, 109, 32] ++ nm ++ [32, 123, 10]) (by simp) (by simp only [List.length_append, List.length_cons, List.length_nil]; omega) c b hc
  obtain ⟨c2', b2, hc2, e2⟩ := pdef11003 d ml mb hml hm ml [] (t ++ ([101, 110, 117, 109, 32] ++ nm ++ [32, 123, 10])) rfl (by simp only [List.length_append, List.length_cons, List.length_nil]; omega) c1' b1 hc1
  refine ⟨c2', b2, hc2, ?_⟩
  rw [RY, y29, st_ne c1, st_ne c3, st_eq c2]
  refine (so_W e1 rfl rfl).trans ?_
  refine (st_ret e2).trans ?_
  simp only [List.append_assoc]
 rw [if_neg c2] at h ⊢
 by_cases c7 : kd = 7
 ·subst c7
  rw [if_pos rfl] at h ⊢
  obtain ⟨c2', b2, hc2, e2⟩ := pdef2043_s d nm ty ck cn cu cs cb cl fb fl mb ml ex tb tl htl ht t hnm hex h c b hc
  refine ⟨c2', b2, hc2, ?_⟩
  rw [RY, y29, st_ne c1, st_ne c3, st_ne c2, st_ne (by decide), st_ne (by decide)]
  exact st_ret e2
 ·rw [if_neg c7] at h ⊢
  obtain ⟨c2', b2, hc2, e2⟩ := pdef2043_f d kd nm ty ck cn cu cs cb cl fb fl mb ml ex tb tl hfl hf (by omega) kd t hnm h c b hc
  refine ⟨c2', b2, hc2, ?_⟩
  by_cases c4 : kd = 4
  ·subst c4
   rw [RY, y29, st_ne c1, st_ne c3, st_ne c2, st_eq rfl]
   exact st_ret e2
  ·by_cases c5 : kd = 5
   ·subst c5
    rw [RY, y29, st_ne c1, st_ne c3, st_ne c2, st_ne c4, st_eq rfl]
    exact st_ret e2
   ·have c6 : kd = 6 := by omega
    subst c6
    rw [RY, y29, st_ne c1, st_ne c3, st_ne c2, st_ne c4, st_ne c5]
    exact st_ret e2
section
variable (ib : Bool) (il : List D) (sb : Bool) (sl : List D) (db : Bool) (dl : List D)
abbrev fiC (ib : Bool) (il : List D) (sb : Bool) (sl : List D) (db : Bool) (dl : List D) : List V := [V.d (D.l ib il), V.d (D.l sb sl), V.d (D.l db dl)]
theorem bytesD_of : ∀ t : List UInt8, bytesD (ofBytes t) = some t
 | [] => rfl
 | a :: t => by
  have h := a.toNat_lt
  show (if (0 : Int) ≤ (a.toNat : Int) ∧ (a.toNat : Int) < 256 then (bytesD (ofBytes t)).map (UInt8.ofNat ((a.toNat : Int)).toNat :: ·) else none) = _
  rw [if_pos ⟨by omega, by omega⟩, bytesD_of t, Option.map_some, Int.toNat_natCast, UInt8.ofNat_toNat]
theorem strY (d : List V) (c : V) (b : Bool) (t : List UInt8) (h0 : t ≠ []) (h : t.length ≤ 1000000) : RY (Task.call 30 [V.p 1 0] [Ob.cells (wcs c b t) wfl, Ob.cells d []]) = some (.d (.s t), [Ob.cells (wcs c b t) wfl, Ob.cells d []]) := by
 rw [ext_callY (g := strExt) rfl]
 show (match bytesD (ofBytes t) with
  | some l => if l ≠ [] ∧ l.length ≤ 1000000 ∧ wfl.contains (1, 21000001) = true then some (V.d (.s l), [Ob.cells (wcs c b t) wfl, Ob.cells d []]) else none
  | none => none) = _
 rw [bytesD_of]
 exact if_pos ⟨h0, h, rfl⟩
theorem so_W3 {f : Task → Option Out} {t : Task} {cs ds : List V} {m n : Nat} {s : List UInt8} {K : List V → List V → List UInt8 → Tr} (h : f t = some (.d (.s s), [.cells cs wfl, .cells ds []])) (hm : cs.length = m) (hn : ds.length = n) :
  interp f (.call t fun o => unCons o.snd fun x l2 => unCells x fun c g => ift (c.length == m) (ift (g == wfl) (unCons l2 fun x5 l6 => unCells x5 fun c7 g8 => ift (c7.length == n) (ift (g8 == []) (unNil l6 (asD o.fst fun d => asS d fun y => K c c7 y)))))) = interp f (K cs ds s) := by
 rw [st_call h]
 show interp f (ift (cs.length == m) (ift (wfl == wfl) (ift (ds.length == n) (ift true (K cs ds s))))) = _
 rw [hm, beq_self_eq_true, st_ift, show (wfl == wfl) = true from rfl, st_ift, hn, beq_self_eq_true, st_ift, st_ift]
theorem pfile175 (h : ∀ y ∈ dl, WD y) (hl : dl.length ≤ 100) : ∀ (r p : List D) (a : List UInt8) (c : V) (b : Bool), CW c → p ++ r = dl → (a ++ (r.map prD).flatten).length ≤ 900000 → a ++ (r.map prD).flatten ≠ [] →
  RY (Task.at_ 12 0 [false, true, false, true, true, true, true] (sv 55 [(3, V.p 1 0), (41, V.d (D.l db dl)), (42, V.d (D.i IntKind.i64 (dl.length : Int))), (43, V.d (D.i IntKind.i64 (p.length : Int)))]) [] [Ob.cells (wcs c b a) wfl, Ob.cells (fiC ib il sb sl db dl) []]) = some (.d (.s (a ++ (r.map prD).flatten)), [])
 | [], p, a, c, b, hc, e, ha, h0 => by
  rw [List.append_nil] at e
  subst e
  simp only [List.map_nil, List.flatten_nil, List.append_nil] at ha h0 ⊢
  rw [RY, y12c, st_f (by omega)]
  refine (so_W3 (strY _ c b a h0 (by omega)) rfl rfl).trans ?_
  rfl
 | x :: r, p, a, c, b, hc, e, ha, h0 => by
  have hlen : dl.length = p.length + (r.length + 1) := by rw [← e]; simp
  have w1 : IntKind.i64.wrap ((p.length : Int) + 1) = ((p.length + 1 : Nat) : Int) := by rw [wrap_i64] <;> omega
  have hx := h x (by rw [← e]; simp)
  have g : dl[p.length]? = some x := by rw [← e]; simp
  simp only [List.map_cons, List.flatten_cons, ← List.append_assoc] at ha h0 ⊢
  obtain ⟨c1, b1, hc1, e1⟩ := pdef_s (fiC ib il sb sl db dl) x hx a (by simp only [List.length_append] at ha; omega) c b hc
  have ih := pfile175 h hl r (p ++ [x]) (a ++ prD x) c1 b1 hc1 (by rw [← e]; simp) ha h0
  rw [show (p ++ [x]).length = p.length + 1 by simp] at ih
  rw [RY, y12c, st_t (by omega)]
  refine (y_el g (wd_width hx)).trans ?_
  obtain ⟨_, _, _, _, _, _, _, _, _, _, _, _, _, _, _, _, rfl, _⟩ := hx
  refine st_ift.trans ?_
  refine (so_W e1 rfl rfl).trans ?_
  rw [w1]
  exact st_ret ih
theorem pfile87 (hd : ∀ y ∈ dl, WD y) (hdl : dl.length ≤ 100) (h : ∀ y ∈ sl, WS y) (hl : sl.length ≤ 100) : ∀ (r p : List D) (a : List UInt8) (c : V) (b : Bool), CW c → p ++ r = sl → (a ++ (r.map prS).flatten ++ (dl.map prD).flatten).length ≤ 900000 → a ++ (r.map prS).flatten ++ (dl.map prD).flatten ≠ [] →
  RY (Task.at_ 12 0 [false, true, false, true, true, true] (sv 55 [(1, V.p 0 0), (3, V.p 1 0), (26, V.d (D.l sb sl)), (27, V.d (D.i IntKind.i64 (sl.length : Int))), (28, V.d (D.i IntKind.i64 (p.length : Int)))]) [] [Ob.cells (wcs c b a) wfl, Ob.cells (fiC ib il sb sl db dl) []]) = some (.d (.s (a ++ (r.map prS).flatten ++ (dl.map prD).flatten)), [])
 | [], p, a, c, b, hc, e, ha, h0 => by
  rw [List.append_nil] at e
  subst e
  simp only [List.map_nil, List.flatten_nil, List.append_nil] at ha h0 ⊢
  rw [RY, y12b, st_f (by omega)]
  exact st_ret (pfile175 ib il sb p db dl hd hdl dl [] a c b hc rfl ha h0)
 | x :: r, p, a, c, b, hc, e, ha, h0 => by
  have hlen : sl.length = p.length + (r.length + 1) := by rw [← e]; simp
  have w1 : IntKind.i64.wrap ((p.length : Int) + 1) = ((p.length + 1 : Nat) : Int) := by rw [wrap_i64] <;> omega
  have hx := h x (by rw [← e]; simp)
  have g : sl[p.length]? = some x := by rw [← e]; simp
  simp only [List.map_cons, List.flatten_cons, ← List.append_assoc] at ha h0 ⊢
  obtain ⟨s1, s2, rfl, h1, h2⟩ := hx
  obtain ⟨c1, b1, hc1, e1⟩ := put_s (fiC ib il sb sl db dl) (ls := [D.s [110, 97, 109, 101, 115, 112, 97, 99, 101, 32], D.s s1, D.s [32], D.s s2, D.s [10]]) [[110, 97, 109, 101, 115, 112, 97, 99, 101, 32], s1, [32], s2, [10]] rfl (by simp) a (u := prS (spD s1 s2)) (by simp [prS]) (by simp only [List.length_append] at ha; omega) c b hc
  have ih := pfile87 hd hdl h hl r (p ++ [spD s1 s2]) (a ++ prS (spD s1 s2)) c1 b1 hc1 (by rw [← e]; simp) ha h0
  rw [show (p ++ [spD s1 s2]).length = p.length + 1 by simp] at ih
  rw [RY, y12b, st_t (by omega)]
  refine (y_el g rfl).trans ?_
  refine st_ift.trans ?_
  refine (so_W e1 rfl rfl).trans ?_
  rw [w1]
  exact st_ret ih
theorem quote_plain {s : List UInt8} (h : s.contains 34 = false) : quoteB s = [34] ++ s ++ [34] := by unfold quoteB; rw [if_neg (by simp at h ⊢; exact h)]
theorem pfile43 (hd : ∀ y ∈ dl, WD y) (hdl : dl.length ≤ 100) (hs : ∀ y ∈ sl, WS y) (hsl : sl.length ≤ 100) (h : ∀ y ∈ il, WI y) (hl : il.length ≤ 100) : ∀ (r p : List D) (a : List UInt8) (c : V) (b : Bool), CW c → p ++ r = il → (a ++ (r.map prI).flatten ++ (sl.map prS).flatten ++ (dl.map prD).flatten).length ≤ 900000 → a ++ (r.map prI).flatten ++ (sl.map prS).flatten ++ (dl.map prD).flatten ≠ [] →
  RY (Task.at_ 12 0 [false, true, false, true, true] (sv 55 [(1, V.p 0 0), (3, V.p 1 0), (13, V.d (D.l ib il)), (14, V.d (D.i IntKind.i64 (il.length : Int))), (15, V.d (D.i IntKind.i64 (p.length : Int)))]) [] [Ob.cells (wcs c b a) wfl, Ob.cells (fiC ib il sb sl db dl) []]) = some (.d (.s (a ++ (r.map prI).flatten ++ (sl.map prS).flatten ++ (dl.map prD).flatten)), [])
 | [], p, a, c, b, hc, e, ha, h0 => by
  rw [List.append_nil] at e
  subst e
  simp only [List.map_nil, List.flatten_nil, List.append_nil] at ha h0 ⊢
  rw [RY, y12a, st_f (by omega)]
  exact st_ret (pfile87 ib p sb sl db dl hd hdl hs hsl sl [] a c b hc rfl ha h0)
 | x :: r, p, a, c, b, hc, e, ha, h0 => by
  have hlen : il.length = p.length + (r.length + 1) := by rw [← e]; simp
  have w1 : IntKind.i64.wrap ((p.length : Int) + 1) = ((p.length + 1 : Nat) : Int) := by rw [wrap_i64] <;> omega
  have hx := h x (by rw [← e]; simp)
  have g : il[p.length]? = some x := by rw [← e]; simp
  simp only [List.map_cons, List.flatten_cons, ← List.append_assoc] at ha h0 ⊢
  obtain ⟨s1, rfl, h1, h2⟩ := hx
  have hq := ptext_s s1 h1
  rw [quote_plain h2] at hq
  obtain ⟨c1, b1, hc1, e1⟩ := put_s (fiC ib il sb sl db dl) (ls := [D.s [105, 110, 99, 108, 117, 100, 101, 32], D.s ([34] ++ s1 ++ [34]), D.s [10]]) [[105, 110, 99, 108, 117, 100, 101, 32], [34] ++ s1 ++ [34], [10]] rfl (by simp) a (u := prI (D.s s1)) (by simp [prI]) (by simp only [List.length_append] at ha; omega) c b hc
  have ih := pfile43 hd hdl hs hsl h hl r (p ++ [D.s s1]) (a ++ prI (D.s s1)) c1 b1 hc1 (by rw [← e]; simp) ha h0
  rw [show (p ++ [D.s s1]).length = p.length + 1 by simp] at ih
  rw [RY, y12a, st_t (by omega), yl_S g, st_S hq]
  refine (so_W e1 rfl rfl).trans ?_
  rw [w1]
  exact st_ret ih
end
theorem pfile_s (x : D) (hx : WFi x) (h0 : prFi x ≠ []) (hl : (prFi x).length ≤ 900000) : RY (Task.call 12 [V.d x] []) = some (.d (.s (prFi x)), []) := by
 obtain ⟨ib, il, sb, sl, db, dl, rfl, h1, h2, h3, h4, h5, h6⟩ := hx
 simp only [prFi] at hl h0 ⊢
 rw [RY, y12]
 exact st_ret (pfile43 ib il sb sl db dl h6 h3 h5 h2 h4 h1 il [] [] (V.d D.np) true (.inl rfl) rfl (by simpa using hl) (by simpa using h0))
end Go.Dn.Dec
namespace Go.Dn.Dec
open Go.Proofs
theorem y63 (k1 n1 u1 : Int) (s1 : List UInt8) (b1 : Bool) (l1 : List D) (k2 n2 u2 : Int) (s2 : List UInt8) (b2 : Bool) (l2 : List D) : rk Tryz.prog polY (.call 63 [.d (.g [.i .i64 k1, .i .i64 n1, .i .u64 u1, .s s1, .l b1 l1]), .d (.g [.i .i64 k2, .i .i64 n2, .i .u64 u2, .s s2, .l b2 l2])] []) = interp (rk Tryz.prog polY) (brB (k1 == k2) (brB (n1 == n2) (brB (u1 == u2) (brB (s1 == s2) (cV (.call 126 [vl b1 l1, vl b2 l2, .f 63 []] []) fun a => aB a fun c => .ret (vb c, [])) (.ret (vb false, []))) (.ret (vb false, []))) (.ret (vb false, []))) (.ret (vb false, []))) :=
 rk_of (by kernel_rfl)
theorem y69 (k1 n1 u1 : Int) (s1 : List UInt8) (b1 : Bool) (l1 : List D) (k2 n2 u2 : Int) (s2 : List UInt8) (b2 : Bool) (l2 : List D) : rk Tryz.prog polY (.call 69 [.d (.g [.i .i64 k1, .i .i64 n1, .i .u64 u1, .s s1, .l b1 l1]), .d (.g [.i .i64 k2, .i .i64 n2, .i .u64 u2, .s s2, .l b2 l2])] []) = interp (rk Tryz.prog polY) (brB (k1 != k2) (.call (.at_ 69 0 [true, false, true] (sv 60 [(2, .p 0 0), (3, .p 1 0), (40, vb true)]) [] [.cells [vi k2, vi n2, vu u2, vs s2, vl b2 l2] [], .cells [vi k1, vi n1, vu u1, vs s1, vl b1 l1] []]) .ret) (brB (n1 != n2) (.call (.at_ 69 0 [true, false, true] (sv 60 [(2, .p 0 0), (3, .p 1 0), (40, vb true)]) [] [.cells [vi k2, vi n2, vu u2, vs s2, vl b2 l2] [], .cells [vi k1, vi n1, vu u1, vs s1, vl b1 l1] []]) .ret) (brB (u1 != u2) (.call (.at_ 69 0 [true, false, true] (sv 60 [(2, .p 0 0), (3, .p 1 0), (40, vb true)]) [] [.cells [vi k2, vi n2, vu u2, vs s2, vl b2 l2] [], .cells [vi k1, vi n1, vu u1, vs s1, vl b1 l1] []]) .ret) (brB (!s1 == s2) (.call (.at_ 69 0 [true, false, true] (sv 60 [(2, .p 0 0), (3, .p 1 0), (40, vb true)]) [] [.cells [vi k2, vi n2, vu u2, vs s2, vl b2 l2] [], .cells [vi k1, vi n1, vu u1, vs s1, vl b1 l1] []]) .ret) (.call (.at_ 69 0 [true, false, true] (sv 60 [(2, .p 0 0), (3, .p 1 0), (40, vb ((l1.length : Int) != (l2.length : Int)))]) [] [.cells [vi k2, vi n2, vu u2, vs s2, vl b2 l2] [], .cells [vi k1, vi n1, vu u1, vs s1, vl b1 l1] []]) .ret))))) :=
 rk_of (by kernel_rfl)
theorem y65 (h1 : Bool) (i1 r1 : Int) (t1 m1 : List UInt8) (j1 : Bool) (k1 n1 u1 : Int) (s1 : List UInt8) (b1 : Bool) (l1 : List D) (h2 : Bool) (i2 r2 : Int) (t2 m2 : List UInt8) (j2 : Bool) (k2 n2 u2 : Int) (s2 : List UInt8) (b2 : Bool) (l2 : List D) : rk Tryz.prog polY (.call 65 [.d (.g [.b h1, .i .i64 i1, .i .i64 r1, .s t1, .s m1, .b j1, .i .i64 k1, .i .i64 n1, .i .u64 u1, .s s1, .l b1 l1]), .d (.g [.b h2, .i .i64 i2, .i .i64 r2, .s t2, .s m2, .b j2, .i .i64 k2, .i .i64 n2, .i .u64 u2, .s s2, .l b2 l2])] []) = interp (rk Tryz.prog polY) (brB (h1 == h2) (brB (i1 == i2) (brB (r1 == r2) (brB (t1 == t2) (brB (m1 == m2) (brB (j1 == j2) (cV (.call 63 [.d (.g [.i .i64 k1, .i .i64 n1, .i .u64 u1, .s s1, .l b1 l1]), .d (.g [.i .i64 k2, .i .i64 n2, .i .u64 u2, .s s2, .l b2 l2])] []) fun a => aB a fun c => .ret (vb c, [])) (.ret (vb false, []))) (.ret (vb false, []))) (.ret (vb false, []))) (.ret (vb false, []))) (.ret (vb false, []))) (.ret (vb false, []))) :=
 rk_of (by kernel_rfl)
theorem y68 (m1 : List UInt8) (o1 : Bool) (r1 : List UInt8) (ab1 : Bool) (al1 : List D) (tb1 : Bool) (tl1 : List D) (m2 : List UInt8) (o2 : Bool) (r2 : List UInt8) (ab2 : Bool) (al2 : List D) (tb2 : Bool) (tl2 : List D) : rk Tryz.prog polY (.call 68 [.d (.g [.s m1, .b o1, .s r1, .l ab1 al1, .l tb1 tl1]), .d (.g [.s m2, .b o2, .s r2, .l ab2 al2, .l tb2 tl2])] []) = interp (rk Tryz.prog polY) (brB (m1 == m2) (brB (o1 == o2) (brB (r1 == r2) (cV (.call 64 [vl ab1 al1, vl ab2 al2, .f 65 []] []) fun a => aB a fun c => brB c (cV (.call 64 [vl tb1 tl1, vl tb2 tl2, .f 65 []] []) fun e => aB e fun h => .ret (vb h, [])) (.ret (vb false, []))) (.ret (vb false, []))) (.ret (vb false, []))) (.ret (vb false, []))) :=
 rk_of (by kernel_rfl)
theorem y35 (kd1 : Int) (nm1 ty1 : List UInt8) (ck1 cn1 cu1 : Int) (cs1 : List UInt8) (cb1 : Bool) (cl1 : List D) (fb1 : Bool) (fl1 : List D) (mb1 : Bool) (ml1 : List D) (ex1 : List UInt8) (tb1 : Bool) (tl1 : List D) (kd2 : Int) (nm2 ty2 : List UInt8) (ck2 cn2 cu2 : Int) (cs2 : List UInt8) (cb2 : Bool) (cl2 : List D) (fb2 : Bool) (fl2 : List D) (mb2 : Bool) (ml2 : List D) (ex2 : List UInt8) (tb2 : Bool) (tl2 : List D) : rk Tryz.prog polY (.call 35 [.d (.g [.i .i64 kd1, .s nm1, .s ty1, .i .i64 ck1, .i .i64 cn1, .i .u64 cu1, .s cs1, .l cb1 cl1, .l fb1 fl1, .l mb1 ml1, .s ex1, .l tb1 tl1]), .d (.g [.i .i64 kd2, .s nm2, .s ty2, .i .i64 ck2, .i .i64 cn2, .i .u64 cu2, .s cs2, .l cb2 cl2, .l fb2 fl2, .l mb2 ml2, .s ex2, .l tb2 tl2])] []) = interp (rk Tryz.prog polY) (brB (kd1 == kd2) (brB (nm1 == nm2) (brB (ty1 == ty2) (cV (.call 63 [.d (.g [.i .i64 ck1, .i .i64 cn1, .i .u64 cu1, .s cs1, .l cb1 cl1]), .d (.g [.i .i64 ck2, .i .i64 cn2, .i .u64 cu2, .s cs2, .l cb2 cl2])] []) fun a => aB a fun c => brB c (cV (.call 64 [vl fb1 fl1, vl fb2 fl2, .f 65 []] []) fun e => aB e fun h => brB h (cV (.call 66 [vl mb1 ml1, vl mb2 ml2] []) fun j => aB j fun k => brB k (brB (ex1 == ex2) (cV (.call 67 [vl tb1 tl1, vl tb2 tl2, .f 68 []] []) fun m => aB m fun n => .ret (vb n, [])) (.ret (vb false, []))) (.ret (vb false, []))) (.ret (vb false, []))) (.ret (vb false, []))) (.ret (vb false, []))) (.ret (vb false, []))) (.ret (vb false, []))) :=
 rk_of (by kernel_rfl)
theorem y36 (kd1 : Int) (nm1 ty1 : List UInt8) (ck1 cn1 cu1 : Int) (cs1 : List UInt8) (cb1 : Bool) (cl1 : List D) (fb1 : Bool) (fl1 : List D) (mb1 : Bool) (ml1 : List D) (ex1 : List UInt8) (tb1 : Bool) (tl1 : List D) (kd2 : Int) (nm2 ty2 : List UInt8) (ck2 cn2 cu2 : Int) (cs2 : List UInt8) (cb2 : Bool) (cl2 : List D) (fb2 : Bool) (fl2 : List D) (mb2 : Bool) (ml2 : List D) (ex2 : List UInt8) (tb2 : Bool) (tl2 : List D) : rk Tryz.prog polY (.call 36 [.d (.g [.i .i64 kd1, .s nm1, .s ty1, .i .i64 ck1, .i .i64 cn1, .i .u64 cu1, .s cs1, .l cb1 cl1, .l fb1 fl1, .l mb1 ml1, .s ex1, .l tb1 tl1]), .d (.g [.i .i64 kd2, .s nm2, .s ty2, .i .i64 ck2, .i .i64 cn2, .i .u64 cu2, .s cs2, .l cb2 cl2, .l fb2 fl2, .l mb2 ml2, .s ex2, .l tb2 tl2])] []) = interp (rk Tryz.prog polY) (brB (kd1 != kd2) (.call (.at_ 36 0 [true, false, true] (sv 139 [(2, .p 0 0), (3, .p 1 0), (68, vb true)]) [] [.cells [vi kd2, vs nm2, vs ty2, vi ck2, vi cn2, vu cu2, vs cs2, vl cb2 cl2, vl fb2 fl2, vl mb2 ml2, vs ex2, vl tb2 tl2] [], .cells [vi kd1, vs nm1, vs ty1, vi ck1, vi cn1, vu cu1, vs cs1, vl cb1 cl1, vl fb1 fl1, vl mb1 ml1, vs ex1, vl tb1 tl1] []]) .ret) (brB (!nm1 == nm2) (.call (.at_ 36 0 [true, false, true] (sv 139 [(2, .p 0 0), (3, .p 1 0), (68, vb true)]) [] [.cells [vi kd2, vs nm2, vs ty2, vi ck2, vi cn2, vu cu2, vs cs2, vl cb2 cl2, vl fb2 fl2, vl mb2 ml2, vs ex2, vl tb2 tl2] [], .cells [vi kd1, vs nm1, vs ty1, vi ck1, vi cn1, vu cu1, vs cs1, vl cb1 cl1, vl fb1 fl1, vl mb1 ml1, vs ex1, vl tb1 tl1] []]) .ret) (brB (!ty1 == ty2) (.call (.at_ 36 0 [true, false, true] (sv 139 [(2, .p 0 0), (3, .p 1 0), (68, vb true)]) [] [.cells [vi kd2, vs nm2, vs ty2, vi ck2, vi cn2, vu cu2, vs cs2, vl cb2 cl2, vl fb2 fl2, vl mb2 ml2, vs ex2, vl tb2 tl2] [], .cells [vi kd1, vs nm1, vs ty1, vi ck1, vi cn1, vu cu1, vs cs1, vl cb1 cl1, vl fb1 fl1, vl mb1 ml1, vs ex1, vl tb1 tl1] []]) .ret) (cV (.call 69 [.d (.g [.i .i64 ck1, .i .i64 cn1, .i .u64 cu1, .s cs1, .l cb1 cl1]), .d (.g [.i .i64 ck2, .i .i64 cn2, .i .u64 cu2, .s cs2, .l cb2 cl2])] []) fun a => aB a fun c => brB (!c) (.call (.at_ 36 0 [true, false, true] (sv 139 [(2, .p 0 0), (3, .p 1 0), (68, vb true)]) [] [.cells [vi kd2, vs nm2, vs ty2, vi ck2, vi cn2, vu cu2, vs cs2, vl cb2 cl2, vl fb2 fl2, vl mb2 ml2, vs ex2, vl tb2 tl2] [], .cells [vi kd1, vs nm1, vs ty1, vi ck1, vi cn1, vu cu1, vs cs1, vl cb1 cl1, vl fb1 fl1, vl mb1 ml1, vs ex1, vl tb1 tl1] []]) .ret) (cV (.call 70 [vl fb1 fl1, vl fb2 fl2] []) fun e => aB e fun f => brB (!f) (.call (.at_ 36 0 [true, false, true] (sv 139 [(2, .p 0 0), (3, .p 1 0), (68, vb true)]) [] [.cells [vi kd2, vs nm2, vs ty2, vi ck2, vi cn2, vu cu2, vs cs2, vl cb2 cl2, vl fb2 fl2, vl mb2 ml2, vs ex2, vl tb2 tl2] [], .cells [vi kd1, vs nm1, vs ty1, vi ck1, vi cn1, vu cu1, vs cs1, vl cb1 cl1, vl fb1 fl1, vl mb1 ml1, vs ex1, vl tb1 tl1] []]) .ret) (brB (!ex1 == ex2) (.call (.at_ 36 0 [true, false, true] (sv 139 [(2, .p 0 0), (3, .p 1 0), (68, vb true)]) [] [.cells [vi kd2, vs nm2, vs ty2, vi ck2, vi cn2, vu cu2, vs cs2, vl cb2 cl2, vl fb2 fl2, vl mb2 ml2, vs ex2, vl tb2 tl2] [], .cells [vi kd1, vs nm1, vs ty1, vi ck1, vi cn1, vu cu1, vs cs1, vl cb1 cl1, vl fb1 fl1, vl mb1 ml1, vs ex1, vl tb1 tl1] []]) .ret) (brB ((ml1.length : Int) != (ml2.length : Int)) (.call (.at_ 36 0 [true, false, true] (sv 139 [(2, .p 0 0), (3, .p 1 0), (68, vb true)]) [] [.cells [vi kd2, vs nm2, vs ty2, vi ck2, vi cn2, vu cu2, vs cs2, vl cb2 cl2, vl fb2 fl2, vl mb2 ml2, vs ex2, vl tb2 tl2] [], .cells [vi kd1, vs nm1, vs ty1, vi ck1, vi cn1, vu cu1, vs cs1, vl cb1 cl1, vl fb1 fl1, vl mb1 ml1, vs ex1, vl tb1 tl1] []]) .ret) (.call (.at_ 36 0 [true, false, true] (sv 139 [(2, .p 0 0), (3, .p 1 0), (68, vb ((tl1.length : Int) != (tl2.length : Int)))]) [] [.cells [vi kd2, vs nm2, vs ty2, vi ck2, vi cn2, vu cu2, vs cs2, vl cb2 cl2, vl fb2 fl2, vl mb2 ml2, vs ex2, vl tb2 tl2] [], .cells [vi kd1, vs nm1, vs ty1, vi ck1, vi cn1, vu cu1, vs cs1, vl cb1 cl1, vl fb1 fl1, vl mb1 ml1, vs ex1, vl tb1 tl1] []]) .ret)))))))) :=
 rk_of (by kernel_rfl)
theorem y14 (ib1 : Bool) (il1 : List D) (sb1 : Bool) (sl1 : List D) (db1 : Bool) (dl1 : List D) (ib2 : Bool) (il2 : List D) (sb2 : Bool) (sl2 : List D) (db2 : Bool) (dl2 : List D) : rk Tryz.prog polY (.call 14 [.d (.g [.l ib1 il1, .l sb1 sl1, .l db1 dl1]), .d (.g [.l ib2 il2, .l sb2 sl2, .l db2 dl2])] []) = interp (rk Tryz.prog polY) (cV (.call 32 [vl ib1 il1, vl ib2 il2] []) fun a => aB a fun c => brB c (cV (.call 33 [vl sb1 sl1, vl sb2 sl2] []) fun e => aB e fun h => brB h (cV (.call 34 [vl db1 dl1, vl db2 dl2, .f 35 []] []) fun i => aB i fun j => .ret (vb j, [])) (.ret (vb false, []))) (.ret (vb false, []))) :=
 rk_of (by kernel_rfl)
theorem y15 (ib1 : Bool) (il1 : List D) (sb1 : Bool) (sl1 : List D) (db1 : Bool) (dl1 : List D) (ib2 : Bool) (il2 : List D) (sb2 : Bool) (sl2 : List D) (db2 : Bool) (dl2 : List D) : rk Tryz.prog polY (.call 15 [.d (.g [.l ib1 il1, .l sb1 sl1, .l db1 dl1]), .d (.g [.l ib2 il2, .l sb2 sl2, .l db2 dl2])] []) = interp (rk Tryz.prog polY) (brB ((il1.length : Int) != (il2.length : Int)) (.call (.at_ 15 0 [true, false, true] (sv 88 [(2, .p 0 0), (3, .p 1 0), (32, vb true)]) [] [.cells [vl ib2 il2, vl sb2 sl2, vl db2 dl2] [], .cells [vl ib1 il1, vl sb1 sl1, vl db1 dl1] []]) .ret) (brB ((sl1.length : Int) != (sl2.length : Int)) (.call (.at_ 15 0 [true, false, true] (sv 88 [(2, .p 0 0), (3, .p 1 0), (32, vb true)]) [] [.cells [vl ib2 il2, vl sb2 sl2, vl db2 dl2] [], .cells [vl ib1 il1, vl sb1 sl1, vl db1 dl1] []]) .ret) (.call (.at_ 15 0 [true, false, true] (sv 88 [(2, .p 0 0), (3, .p 1 0), (32, vb ((dl1.length : Int) != (dl2.length : Int)))]) [] [.cells [vl ib2 il2, vl sb2 sl2, vl db2 dl2] [], .cells [vl ib1 il1, vl sb1 sl1, vl db1 dl1] []]) .ret))) :=
 rk_of (by kernel_rfl)
theorem y32 (b : Bool) (l : List D) (c : Bool) (m : List D) : rk Tryz.prog polY (.call 32 [vl b l, vl c m] []) = interp (rk Tryz.prog polY) (brB ((l.length : Int) != (m.length : Int)) (.ret (vb false, [])) (.call (.at_ 32 0 [false, true, false, true, true] (sv 26 [(0, vl b l), (1, vl c m), (12, vi (l.length : Int)), (13, vi 0)]) [] []) .ret)) :=
 rk_of (by kernel_rfl)
theorem y33 (b : Bool) (l : List D) (c : Bool) (m : List D) : rk Tryz.prog polY (.call 33 [vl b l, vl c m] []) = interp (rk Tryz.prog polY) (brB ((l.length : Int) != (m.length : Int)) (.ret (vb false, [])) (.call (.at_ 33 0 [false, true, false, true, true] (sv 26 [(0, vl b l), (1, vl c m), (12, vi (l.length : Int)), (13, vi 0)]) [] []) .ret)) :=
 rk_of (by kernel_rfl)
theorem y66 (b : Bool) (l : List D) (c : Bool) (m : List D) : rk Tryz.prog polY (.call 66 [vl b l, vl c m] []) = interp (rk Tryz.prog polY) (brB ((l.length : Int) != (m.length : Int)) (.ret (vb false, [])) (.call (.at_ 66 0 [false, true, false, true, true] (sv 26 [(0, vl b l), (1, vl c m), (12, vi (l.length : Int)), (13, vi 0)]) [] []) .ret)) :=
 rk_of (by kernel_rfl)
theorem y70 (b : Bool) (l : List D) (c : Bool) (m : List D) : rk Tryz.prog polY (.call 70 [vl b l, vl c m] []) = interp (rk Tryz.prog polY) (brB ((l.length : Int) != (m.length : Int)) (.ret (vb false, [])) (.call (.at_ 70 0 [false, true, false, true, true] (sv 75 [(0, vl b l), (1, vl c m), (5, vi 0)]) [] []) .ret)) :=
 rk_of (by kernel_rfl)
theorem y126 (b : Bool) (l : List D) (c : Bool) (m : List D) : rk Tryz.prog polY (.call 126 [vl b l, vl c m, .f 63 []] []) = interp (rk Tryz.prog polY) (brB ((l.length : Int) != (m.length : Int)) (.ret (vb false, [])) (.call (.at_ 126 0 [false, true, false, true, true] (sv 32 [(1, vl c m), (2, .f 63 []), (15, vl b l), (16, vi (l.length : Int)), (17, vi 0)]) [] []) .ret)) :=
 rk_of (by kernel_rfl)
theorem y64 (b : Bool) (l : List D) (c : Bool) (m : List D) : rk Tryz.prog polY (.call 64 [vl b l, vl c m, .f 65 []] []) = interp (rk Tryz.prog polY) (brB ((l.length : Int) != (m.length : Int)) (.ret (vb false, [])) (.call (.at_ 64 0 [false, true, false, true, true] (sv 32 [(1, vl c m), (2, .f 65 []), (15, vl b l), (16, vi (l.length : Int)), (17, vi 0)]) [] []) .ret)) :=
 rk_of (by kernel_rfl)
theorem y67 (b : Bool) (l : List D) (c : Bool) (m : List D) : rk Tryz.prog polY (.call 67 [vl b l, vl c m, .f 68 []] []) = interp (rk Tryz.prog polY) (brB ((l.length : Int) != (m.length : Int)) (.ret (vb false, [])) (.call (.at_ 67 0 [false, true, false, true, true] (sv 32 [(1, vl c m), (2, .f 68 []), (15, vl b l), (16, vi (l.length : Int)), (17, vi 0)]) [] []) .ret)) :=
 rk_of (by kernel_rfl)
theorem y34 (b : Bool) (l : List D) (c : Bool) (m : List D) : rk Tryz.prog polY (.call 34 [vl b l, vl c m, .f 35 []] []) = interp (rk Tryz.prog polY) (brB ((l.length : Int) != (m.length : Int)) (.ret (vb false, [])) (.call (.at_ 34 0 [false, true, false, true, true] (sv 32 [(1, vl c m), (2, .f 35 []), (15, vl b l), (16, vi (l.length : Int)), (17, vi 0)]) [] []) .ret)) :=
 rk_of (by kernel_rfl)
theorem y69_at13 (b_0 : Bool) (n_1 n_2 n_3 : Int) (l_4 : List UInt8) (b_5 : Bool) (l_6 : List D) (n_7 n_8 n_9 : Int) (l_10 : List UInt8) (b_11 : Bool) (l_12 : List D) : rk Tryz.prog polY (.at_ 69 0 [true, false, true] (sv 60 [(2, .p 0 0), (3, .p 1 0), (40, vb b_0)]) [] [.cells [vi n_1, vi n_2, vu n_3, vs l_4, vl b_5 l_6] [], .cells [vi n_7, vi n_8, vu n_9, vs l_10, vl b_11 l_12] []]) = interp (rk Tryz.prog polY) (brB b_0 (.ret (vb false, [])) (.call (.at_ 69 0 [false, true, false, true, true] (sv 60 [(2, .p 0 0), (3, .p 1 0), (5, vi 0)]) [] [.cells [vi n_1, vi n_2, vu n_3, vs l_4, vl b_5 l_6] [], .cells [vi n_7, vi n_8, vu n_9, vs l_10, vl b_11 l_12] []]) .ret)) :=
 rk_of (by kernel_rfl)
theorem y36_at13 (b_0 : Bool) (n_1 : Int) (l_2 l_3 : List UInt8) (n_4 n_5 n_6 : Int) (l_7 : List UInt8) (b_8 : Bool) (l_9 : List D) (b_10 : Bool) (l_11 : List D) (b_12 : Bool) (l_13 : List D) (l_14 : List UInt8) (b_15 : Bool) (l_16 : List D) (n_17 : Int) (l_18 l_19 : List UInt8) (n_20 n_21 n_22 : Int) (l_23 : List UInt8) (b_24 : Bool) (l_25 : List D) (b_26 : Bool) (l_27 : List D) (b_28 : Bool) (l_29 : List D) (l_30 : List UInt8) (b_31 : Bool) (l_32 : List D) : rk Tryz.prog polY (.at_ 36 0 [true, false, true] (sv 139 [(2, .p 0 0), (3, .p 1 0), (68, vb b_0)]) [] [.cells [vi n_1, vs l_2, vs l_3, vi n_4, vi n_5, vu n_6, vs l_7, vl b_8 l_9, vl b_10 l_11, vl b_12 l_13, vs l_14, vl b_15 l_16] [], .cells [vi n_17, vs l_18, vs l_19, vi n_20, vi n_21, vu n_22, vs l_23, vl b_24 l_25, vl b_26 l_27, vl b_28 l_29, vs l_30, vl b_31 l_32] []]) = interp (rk Tryz.prog polY) (brB b_0 (.ret (vb false, [])) (.call (.at_ 36 0 [false, true, false, true, true] (sv 139 [(2, .p 0 0), (3, .p 1 0), (5, vi 0)]) [] [.cells [vi n_1, vs l_2, vs l_3, vi n_4, vi n_5, vu n_6, vs l_7, vl b_8 l_9, vl b_10 l_11, vl b_12 l_13, vs l_14, vl b_15 l_16] [], .cells [vi n_17, vs l_18, vs l_19, vi n_20, vi n_21, vu n_22, vs l_23, vl b_24 l_25, vl b_26 l_27, vl b_28 l_29, vs l_30, vl b_31 l_32] []]) .ret)) :=
 rk_of (by kernel_rfl)
theorem y15_at13 (b_0 b_1 : Bool) (l_2 : List D) (b_3 : Bool) (l_4 : List D) (b_5 : Bool) (l_6 : List D) (b_7 : Bool) (l_8 : List D) (b_9 : Bool) (l_10 : List D) (b_11 : Bool) (l_12 : List D) : rk Tryz.prog polY (.at_ 15 0 [true, false, true] (sv 88 [(2, .p 0 0), (3, .p 1 0), (32, vb b_0)]) [] [.cells [vl b_1 l_2, vl b_3 l_4, vl b_5 l_6] [], .cells [vl b_7 l_8, vl b_9 l_10, vl b_11 l_12] []]) = interp (rk Tryz.prog polY) (brB b_0 (.ret (vb false, [])) (.call (.at_ 15 0 [false, true, false, true, true] (sv 88 [(2, .p 0 0), (3, .p 1 0), (5, vi 0)]) [] [.cells [vl b_1 l_2, vl b_3 l_4, vl b_5 l_6] [], .cells [vl b_7 l_8, vl b_9 l_10, vl b_11 l_12] []]) .ret)) :=
 rk_of (by kernel_rfl)
theorem y32_at43 (b_0 : Bool) (l_1 : List D) (b_2 : Bool) (l_3 : List D) (n_4 n_5 : Int) : rk Tryz.prog polY (.at_ 32 0 [false, true, false, true, true] (sv 26 [(0, vl b_0 l_1), (1, vl b_2 l_3), (12, vi n_4), (13, vi n_5)]) [] []) = interp (rk Tryz.prog polY) (brB (decide (n_5 < n_4)) (eC l_1 n_5 1 0 fun a => asS a fun c => eC l_3 n_5 1 0 fun e => asS e fun f => brB (!c == f) (.ret (vb false, [])) (.call (.at_ 32 0 [false, true, false, true, true] (sv 26 [(0, vl b_0 l_1), (1, vl b_2 l_3), (12, vi n_4), (13, vi (IntKind.i64.wrap (n_5 + 1)))]) [] []) .ret)) (.ret (vb true, []))) :=
 rk_of (by kernel_rfl)
theorem y33_at43 (b_0 : Bool) (l_1 : List D) (b_2 : Bool) (l_3 : List D) (n_4 n_5 : Int) : rk Tryz.prog polY (.at_ 33 0 [false, true, false, true, true] (sv 26 [(0, vl b_0 l_1), (1, vl b_2 l_3), (12, vi n_4), (13, vi n_5)]) [] []) = interp (rk Tryz.prog polY) (brB (decide (n_5 < n_4)) (eL l_1 n_5 2 fun a => eL l_3 n_5 2 fun c => ob (eqG [3, 3] (.d (.g [gD 2 0 a 0, gD 2 0 a 1])) (.d (.g [gD 2 0 c 0, gD 2 0 c 1]))) fun e => brB (!e) (.ret (vb false, [])) (.call (.at_ 33 0 [false, true, false, true, true] (sv 26 [(0, vl b_0 l_1), (1, vl b_2 l_3), (12, vi n_4), (13, vi (IntKind.i64.wrap (n_5 + 1)))]) [] []) .ret)) (.ret (vb true, []))) :=
 rk_of (by kernel_rfl)
theorem y66_at43 (b_0 : Bool) (l_1 : List D) (b_2 : Bool) (l_3 : List D) (n_4 n_5 : Int) : rk Tryz.prog polY (.at_ 66 0 [false, true, false, true, true] (sv 26 [(0, vl b_0 l_1), (1, vl b_2 l_3), (12, vi n_4), (13, vi n_5)]) [] []) = interp (rk Tryz.prog polY) (brB (decide (n_5 < n_4)) (eL l_1 n_5 3 fun a => eL l_3 n_5 3 fun c => ob (eqG [3, 1, 2] (.d (.g [gD 3 0 a 0, gD 3 0 a 1, gD 3 0 a 2])) (.d (.g [gD 3 0 c 0, gD 3 0 c 1, gD 3 0 c 2]))) fun e => brB (!e) (.ret (vb false, [])) (.call (.at_ 66 0 [false, true, false, true, true] (sv 26 [(0, vl b_0 l_1), (1, vl b_2 l_3), (12, vi n_4), (13, vi (IntKind.i64.wrap (n_5 + 1)))]) [] []) .ret)) (.ret (vb true, []))) :=
 rk_of (by kernel_rfl)
theorem y70_at43 (b_0 : Bool) (l_1 : List D) (b_2 : Bool) (l_3 : List D) (n_4 : Int) : rk Tryz.prog polY (.at_ 70 0 [false, true, false, true, true] (sv 75 [(0, vl b_0 l_1), (1, vl b_2 l_3), (5, vi n_4)]) [] []) = interp (rk Tryz.prog polY) (brB (decide (n_4 < (l_1.length : Int))) (eL l_1 n_4 11 fun a => eL l_3 n_4 11 fun c => ift ([.d (gD 11 0 a 0), .d (gD 11 0 a 1), .d (gD 11 0 a 2), .d (gD 11 0 a 3), .d (gD 11 0 a 4), .d (gD 11 0 a 5), .d (gD 11 0 a 6), .d (gD 11 0 a 7), .d (gD 11 0 a 8), .d (gD 11 0 a 9), .d (gD 11 0 a 10)].all V.one) (ift ([.d (gD 11 0 c 0), .d (gD 11 0 c 1), .d (gD 11 0 c 2), .d (gD 11 0 c 3), .d (gD 11 0 c 4), .d (gD 11 0 c 5), .d (gD 11 0 c 6), .d (gD 11 0 c 7), .d (gD 11 0 c 8), .d (gD 11 0 c 9), .d (gD 11 0 c 10)].all V.one) (asB (gD 11 0 a 0) fun e => asB (gD 11 0 c 0) fun f => brB (!e == f) (.call (.at_ 70 0 [true, true, false, false, true, false, false, true, false, true, true] (sv 75 [(0, vl b_0 l_1), (1, vl b_2 l_3), (5, vi n_4), (74, vb true)]) [] []) .ret) (asI .i64 (gD 11 0 a 1) fun h => asI .i64 (gD 11 0 c 1) fun j => brB (h != j) (.call (.at_ 70 0 [true, true, false, false, true, false, false, true, false, true, true] (sv 75 [(0, vl b_0 l_1), (1, vl b_2 l_3), (5, vi n_4), (74, vb true)]) [] []) .ret) (asI .i64 (gD 11 0 a 2) fun k => asI .i64 (gD 11 0 c 2) fun m => brB (k != m) (.call (.at_ 70 0 [true, true, false, false, true, false, false, true, false, true, true] (sv 75 [(0, vl b_0 l_1), (1, vl b_2 l_3), (5, vi n_4), (74, vb true)]) [] []) .ret) (asS (gD 11 0 a 3) fun n => asS (gD 11 0 c 3) fun o => brB (!n == o) (.call (.at_ 70 0 [true, true, false, false, true, false, false, true, false, true, true] (sv 75 [(0, vl b_0 l_1), (1, vl b_2 l_3), (5, vi n_4), (74, vb true)]) [] []) .ret) (asS (gD 11 0 a 4) fun p => asS (gD 11 0 c 4) fun q => brB (!p == q) (.call (.at_ 70 0 [true, true, false, false, true, false, false, true, false, true, true] (sv 75 [(0, vl b_0 l_1), (1, vl b_2 l_3), (5, vi n_4), (74, vb true)]) [] []) .ret) (asB (gD 11 0 a 5) fun r => asB (gD 11 0 c 5) fun s => brB (!r == s) (.call (.at_ 70 0 [true, true, false, false, true, false, false, true, false, true, true] (sv 75 [(0, vl b_0 l_1), (1, vl b_2 l_3), (5, vi n_4), (74, vb true)]) [] []) .ret) (cV (.call 69 [.d (.g [gD 11 0 a 6, gD 11 0 a 7, gD 11 0 a 8, gD 11 0 a 9, gD 11 0 a 10]), .d (.g [gD 11 0 c 6, gD 11 0 c 7, gD 11 0 c 8, gD 11 0 c 9, gD 11 0 c 10])] []) fun t => aB t fun zu => .call (.at_ 70 0 [true, true, false, false, true, false, false, true, false, true, true] (sv 75 [(0, vl b_0 l_1), (1, vl b_2 l_3), (5, vi n_4), (74, vb !zu)]) [] []) .ret))))))))) (.ret (vb true, []))) :=
 rk_of (by kernel_rfl)
theorem y126_at43 (b_0 : Bool) (l_1 : List D) (b_2 : Bool) (l_3 : List D) (n_4 n_5 : Int) : rk Tryz.prog polY (.at_ 126 0 [false, true, false, true, true] (sv 32 [(1, vl b_0 l_1), (2, .f 63 []), (15, vl b_2 l_3), (16, vi n_4), (17, vi n_5)]) [] []) = interp (rk Tryz.prog polY) (brB (decide (n_5 < n_4)) (eL l_3 n_5 5 fun a => ift ([.d (gD 5 0 a 0), .d (gD 5 0 a 1), .d (gD 5 0 a 2), .d (gD 5 0 a 3), .d (gD 5 0 a 4)].all V.one) (eL l_1 n_5 5 fun c => ift ([.d (gD 5 0 c 0), .d (gD 5 0 c 1), .d (gD 5 0 c 2), .d (gD 5 0 c 3), .d (gD 5 0 c 4)].all V.one) (cV (.call 63 [.d (.g [gD 5 0 a 0, gD 5 0 a 1, gD 5 0 a 2, gD 5 0 a 3, gD 5 0 a 4]), .d (.g [gD 5 0 c 0, gD 5 0 c 1, gD 5 0 c 2, gD 5 0 c 3, gD 5 0 c 4])] []) fun e => aB e fun h => brB (!h) (.ret (vb false, [])) (.call (.at_ 126 0 [false, true, false, true, true] (sv 32 [(1, vl b_0 l_1), (2, .f 63 []), (15, vl b_2 l_3), (16, vi n_4), (17, vi (IntKind.i64.wrap (n_5 + 1)))]) [] []) .ret)))) (.ret (vb true, []))) :=
 rk_of (by kernel_rfl)
theorem y64_at43 (b_0 : Bool) (l_1 : List D) (b_2 : Bool) (l_3 : List D) (n_4 n_5 : Int) : rk Tryz.prog polY (.at_ 64 0 [false, true, false, true, true] (sv 32 [(1, vl b_0 l_1), (2, .f 65 []), (15, vl b_2 l_3), (16, vi n_4), (17, vi n_5)]) [] []) = interp (rk Tryz.prog polY) (brB (decide (n_5 < n_4)) (eL l_3 n_5 11 fun a => ift ([.d (gD 11 0 a 0), .d (gD 11 0 a 1), .d (gD 11 0 a 2), .d (gD 11 0 a 3), .d (gD 11 0 a 4), .d (gD 11 0 a 5), .d (gD 11 0 a 6), .d (gD 11 0 a 7), .d (gD 11 0 a 8), .d (gD 11 0 a 9), .d (gD 11 0 a 10)].all V.one) (eL l_1 n_5 11 fun c => ift ([.d (gD 11 0 c 0), .d (gD 11 0 c 1), .d (gD 11 0 c 2), .d (gD 11 0 c 3), .d (gD 11 0 c 4), .d (gD 11 0 c 5), .d (gD 11 0 c 6), .d (gD 11 0 c 7), .d (gD 11 0 c 8), .d (gD 11 0 c 9), .d (gD 11 0 c 10)].all V.one) (cV (.call 65 [.d (.g [gD 11 0 a 0, gD 11 0 a 1, gD 11 0 a 2, gD 11 0 a 3, gD 11 0 a 4, gD 11 0 a 5, gD 11 0 a 6, gD 11 0 a 7, gD 11 0 a 8, gD 11 0 a 9, gD 11 0 a 10]), .d (.g [gD 11 0 c 0, gD 11 0 c 1, gD 11 0 c 2, gD 11 0 c 3, gD 11 0 c 4, gD 11 0 c 5, gD 11 0 c 6, gD 11 0 c 7, gD 11 0 c 8, gD 11 0 c 9, gD 11 0 c 10])] []) fun e => aB e fun h => brB (!h) (.ret (vb false, [])) (.call (.at_ 64 0 [false, true, false, true, true] (sv 32 [(1, vl b_0 l_1), (2, .f 65 []), (15, vl b_2 l_3), (16, vi n_4), (17, vi (IntKind.i64.wrap (n_5 + 1)))]) [] []) .ret)))) (.ret (vb true, []))) :=
 rk_of (by kernel_rfl)
theorem y67_at43 (b_0 : Bool) (l_1 : List D) (b_2 : Bool) (l_3 : List D) (n_4 n_5 : Int) : rk Tryz.prog polY (.at_ 67 0 [false, true, false, true, true] (sv 32 [(1, vl b_0 l_1), (2, .f 68 []), (15, vl b_2 l_3), (16, vi n_4), (17, vi n_5)]) [] []) = interp (rk Tryz.prog polY) (brB (decide (n_5 < n_4)) (eL l_3 n_5 5 fun a => ift ([.d (gD 5 0 a 0), .d (gD 5 0 a 1), .d (gD 5 0 a 2), .d (gD 5 0 a 3), .d (gD 5 0 a 4)].all V.one) (eL l_1 n_5 5 fun c => ift ([.d (gD 5 0 c 0), .d (gD 5 0 c 1), .d (gD 5 0 c 2), .d (gD 5 0 c 3), .d (gD 5 0 c 4)].all V.one) (cV (.call 68 [.d (.g [gD 5 0 a 0, gD 5 0 a 1, gD 5 0 a 2, gD 5 0 a 3, gD 5 0 a 4]), .d (.g [gD 5 0 c 0, gD 5 0 c 1, gD 5 0 c 2, gD 5 0 c 3, gD 5 0 c 4])] []) fun e => aB e fun h => brB (!h) (.ret (vb false, [])) (.call (.at_ 67 0 [false, true, false, true, true] (sv 32 [(1, vl b_0 l_1), (2, .f 68 []), (15, vl b_2 l_3), (16, vi n_4), (17, vi (IntKind.i64.wrap (n_5 + 1)))]) [] []) .ret)))) (.ret (vb true, []))) :=
 rk_of (by kernel_rfl)
theorem y34_at43 (b_0 : Bool) (l_1 : List D) (b_2 : Bool) (l_3 : List D) (n_4 n_5 : Int) : rk Tryz.prog polY (.at_ 34 0 [false, true, false, true, true] (sv 32 [(1, vl b_0 l_1), (2, .f 35 []), (15, vl b_2 l_3), (16, vi n_4), (17, vi n_5)]) [] []) = interp (rk Tryz.prog polY) (brB (decide (n_5 < n_4)) (eL l_3 n_5 12 fun a => ift ([.d (gD 12 0 a 0), .d (gD 12 0 a 1), .d (gD 12 0 a 2), .d (gD 12 0 a 3), .d (gD 12 0 a 4), .d (gD 12 0 a 5), .d (gD 12 0 a 6), .d (gD 12 0 a 7), .d (gD 12 0 a 8), .d (gD 12 0 a 9), .d (gD 12 0 a 10), .d (gD 12 0 a 11)].all V.one) (eL l_1 n_5 12 fun c => ift ([.d (gD 12 0 c 0), .d (gD 12 0 c 1), .d (gD 12 0 c 2), .d (gD 12 0 c 3), .d (gD 12 0 c 4), .d (gD 12 0 c 5), .d (gD 12 0 c 6), .d (gD 12 0 c 7), .d (gD 12 0 c 8), .d (gD 12 0 c 9), .d (gD 12 0 c 10), .d (gD 12 0 c 11)].all V.one) (cV (.call 35 [.d (.g [gD 12 0 a 0, gD 12 0 a 1, gD 12 0 a 2, gD 12 0 a 3, gD 12 0 a 4, gD 12 0 a 5, gD 12 0 a 6, gD 12 0 a 7, gD 12 0 a 8, gD 12 0 a 9, gD 12 0 a 10, gD 12 0 a 11]), .d (.g [gD 12 0 c 0, gD 12 0 c 1, gD 12 0 c 2, gD 12 0 c 3, gD 12 0 c 4, gD 12 0 c 5, gD 12 0 c 6, gD 12 0 c 7, gD 12 0 c 8, gD 12 0 c 9, gD 12 0 c 10, gD 12 0 c 11])] []) fun e => aB e fun h => brB (!h) (.ret (vb false, [])) (.call (.at_ 34 0 [false, true, false, true, true] (sv 32 [(1, vl b_0 l_1), (2, .f 35 []), (15, vl b_2 l_3), (16, vi n_4), (17, vi (IntKind.i64.wrap (n_5 + 1)))]) [] []) .ret)))) (.ret (vb true, []))) :=
 rk_of (by kernel_rfl)
theorem y69_at43 (n_0 n_1 n_2 n_3 : Int) (l_4 : List UInt8) (b_5 : Bool) (l_6 : List D) (n_7 n_8 n_9 : Int) (l_10 : List UInt8) (b_11 : Bool) (l_12 : List D) : rk Tryz.prog polY (.at_ 69 0 [false, true, false, true, true] (sv 60 [(2, .p 0 0), (3, .p 1 0), (5, vi n_0)]) [] [.cells [vi n_1, vi n_2, vu n_3, vs l_4, vl b_5 l_6] [], .cells [vi n_7, vi n_8, vu n_9, vs l_10, vl b_11 l_12] []]) = interp (rk Tryz.prog polY) (brB (decide (n_0 < (l_12.length : Int))) (eL l_12 n_0 5 fun a => eL l_6 n_0 5 fun c => cV (.call 69 [.d (.g [gD 5 0 a 0, gD 5 0 a 1, gD 5 0 a 2, gD 5 0 a 3, gD 5 0 a 4]), .d (.g [gD 5 0 c 0, gD 5 0 c 1, gD 5 0 c 2, gD 5 0 c 3, gD 5 0 c 4])] []) fun e => aB e fun f => brB (!f) (.ret (vb false, [])) (.call (.at_ 69 0 [false, true, false, true, true] (sv 60 [(2, .p 0 0), (3, .p 1 0), (5, vi (IntKind.i64.wrap (n_0 + 1)))]) [] [.cells [vi n_1, vi n_2, vu n_3, vs l_4, vl b_5 l_6] [], .cells [vi n_7, vi n_8, vu n_9, vs l_10, vl b_11 l_12] []]) .ret)) (.ret (vb true, []))) :=
 rk_of (by kernel_rfl)
theorem y36_at43 (n_0 n_1 : Int) (l_2 l_3 : List UInt8) (n_4 n_5 n_6 : Int) (l_7 : List UInt8) (b_8 : Bool) (l_9 : List D) (b_10 : Bool) (l_11 : List D) (b_12 : Bool) (l_13 : List D) (l_14 : List UInt8) (b_15 : Bool) (l_16 : List D) (n_17 : Int) (l_18 l_19 : List UInt8) (n_20 n_21 n_22 : Int) (l_23 : List UInt8) (b_24 : Bool) (l_25 : List D) (b_26 : Bool) (l_27 : List D) (b_28 : Bool) (l_29 : List D) (l_30 : List UInt8) (b_31 : Bool) (l_32 : List D) : rk Tryz.prog polY (.at_ 36 0 [false, true, false, true, true] (sv 139 [(2, .p 0 0), (3, .p 1 0), (5, vi n_0)]) [] [.cells [vi n_1, vs l_2, vs l_3, vi n_4, vi n_5, vu n_6, vs l_7, vl b_8 l_9, vl b_10 l_11, vl b_12 l_13, vs l_14, vl b_15 l_16] [], .cells [vi n_17, vs l_18, vs l_19, vi n_20, vi n_21, vu n_22, vs l_23, vl b_24 l_25, vl b_26 l_27, vl b_28 l_29, vs l_30, vl b_31 l_32] []]) = interp (rk Tryz.prog polY) (brB (decide (n_0 < (l_29.length : Int))) (eL l_29 n_0 3 fun a => eL l_13 n_0 3 fun c => ob (eqG [3, 1, 2] (.d (.g [gD 3 0 a 0, gD 3 0 a 1, gD 3 0 a 2])) (.d (.g [gD 3 0 c 0, gD 3 0 c 1, gD 3 0 c 2]))) fun e => brB (!e) (.ret (vb false, [])) (.call (.at_ 36 0 [false, true, false, true, true] (sv 139 [(2, .p 0 0), (3, .p 1 0), (5, vi (IntKind.i64.wrap (n_0 + 1)))]) [] [.cells [vi n_1, vs l_2, vs l_3, vi n_4, vi n_5, vu n_6, vs l_7, vl b_8 l_9, vl b_10 l_11, vl b_12 l_13, vs l_14, vl b_15 l_16] [], .cells [vi n_17, vs l_18, vs l_19, vi n_20, vi n_21, vu n_22, vs l_23, vl b_24 l_25, vl b_26 l_27, vl b_28 l_29, vs l_30, vl b_31 l_32] []]) .ret)) (.call (.at_ 36 0 [false, true, false, true, true, true] (sv 139 [(2, .p 0 0), (3, .p 1 0), (6, vi 0)]) [] [.cells [vi n_1, vs l_2, vs l_3, vi n_4, vi n_5, vu n_6, vs l_7, vl b_8 l_9, vl b_10 l_11, vl b_12 l_13, vs l_14, vl b_15 l_16] [], .cells [vi n_17, vs l_18, vs l_19, vi n_20, vi n_21, vu n_22, vs l_23, vl b_24 l_25, vl b_26 l_27, vl b_28 l_29, vs l_30, vl b_31 l_32] []]) .ret)) :=
 rk_of (by kernel_rfl)
theorem y15_at43 (n_0 : Int) (b_1 : Bool) (l_2 : List D) (b_3 : Bool) (l_4 : List D) (b_5 : Bool) (l_6 : List D) (b_7 : Bool) (l_8 : List D) (b_9 : Bool) (l_10 : List D) (b_11 : Bool) (l_12 : List D) : rk Tryz.prog polY (.at_ 15 0 [false, true, false, true, true] (sv 88 [(2, .p 0 0), (3, .p 1 0), (5, vi n_0)]) [] [.cells [vl b_1 l_2, vl b_3 l_4, vl b_5 l_6] [], .cells [vl b_7 l_8, vl b_9 l_10, vl b_11 l_12] []]) = interp (rk Tryz.prog polY) (brB (decide (n_0 < (l_8.length : Int))) (eC l_8 n_0 1 0 fun a => asS a fun c => eC l_2 n_0 1 0 fun e => asS e fun f => brB (!c == f) (.ret (vb false, [])) (.call (.at_ 15 0 [false, true, false, true, true] (sv 88 [(2, .p 0 0), (3, .p 1 0), (5, vi (IntKind.i64.wrap (n_0 + 1)))]) [] [.cells [vl b_1 l_2, vl b_3 l_4, vl b_5 l_6] [], .cells [vl b_7 l_8, vl b_9 l_10, vl b_11 l_12] []]) .ret)) (.call (.at_ 15 0 [false, true, false, true, true, true] (sv 88 [(2, .p 0 0), (3, .p 1 0), (6, vi 0)]) [] [.cells [vl b_1 l_2, vl b_3 l_4, vl b_5 l_6] [], .cells [vl b_7 l_8, vl b_9 l_10, vl b_11 l_12] []]) .ret)) :=
 rk_of (by kernel_rfl)
theorem y70_at3659 (b_0 : Bool) (l_1 : List D) (b_2 : Bool) (l_3 : List D) (n_4 : Int) (b_5 : Bool) : rk Tryz.prog polY (.at_ 70 0 [true, true, false, false, true, false, false, true, false, true, true] (sv 75 [(0, vl b_0 l_1), (1, vl b_2 l_3), (5, vi n_4), (74, vb b_5)]) [] []) = interp (rk Tryz.prog polY) (brB b_5 (.ret (vb false, [])) (.call (.at_ 70 0 [false, true, false, true, true] (sv 75 [(0, vl b_0 l_1), (1, vl b_2 l_3), (5, vi (IntKind.i64.wrap (n_4 + 1)))]) [] []) .ret)) :=
 rk_of (by kernel_rfl)
theorem y36_at87 (n_0 n_1 : Int) (l_2 l_3 : List UInt8) (n_4 n_5 n_6 : Int) (l_7 : List UInt8) (b_8 : Bool) (l_9 : List D) (b_10 : Bool) (l_11 : List D) (b_12 : Bool) (l_13 : List D) (l_14 : List UInt8) (b_15 : Bool) (l_16 : List D) (n_17 : Int) (l_18 l_19 : List UInt8) (n_20 n_21 n_22 : Int) (l_23 : List UInt8) (b_24 : Bool) (l_25 : List D) (b_26 : Bool) (l_27 : List D) (b_28 : Bool) (l_29 : List D) (l_30 : List UInt8) (b_31 : Bool) (l_32 : List D) : rk Tryz.prog polY (.at_ 36 0 [false, true, false, true, true, true] (sv 139 [(2, .p 0 0), (3, .p 1 0), (6, vi n_0)]) [] [.cells [vi n_1, vs l_2, vs l_3, vi n_4, vi n_5, vu n_6, vs l_7, vl b_8 l_9, vl b_10 l_11, vl b_12 l_13, vs l_14, vl b_15 l_16] [], .cells [vi n_17, vs l_18, vs l_19, vi n_20, vi n_21, vu n_22, vs l_23, vl b_24 l_25, vl b_26 l_27, vl b_28 l_29, vs l_30, vl b_31 l_32] []]) = interp (rk Tryz.prog polY) (brB (decide (n_0 < (l_32.length : Int))) (eL l_32 n_0 5 fun a => eL l_16 n_0 5 fun c => ift ([.d (gD 5 0 a 0), .d (gD 5 0 a 1), .d (gD 5 0 a 2), .d (gD 5 0 a 3), .d (gD 5 0 a 4)].all V.one) (ift ([.d (gD 5 0 c 0), .d (gD 5 0 c 1), .d (gD 5 0 c 2), .d (gD 5 0 c 3), .d (gD 5 0 c 4)].all V.one) (asS (gD 5 0 a 0) fun e => asS (gD 5 0 c 0) fun f => brB (!e == f) (.call (.at_ 36 0 [true, true, false, false, true, false, false, true, false, true, true, true] (sv 139 [(2, .p 0 0), (3, .p 1 0), (6, vi n_0), (138, vb true)]) [] [.cells [vi n_1, vs l_2, vs l_3, vi n_4, vi n_5, vu n_6, vs l_7, vl b_8 l_9, vl b_10 l_11, vl b_12 l_13, vs l_14, vl b_15 l_16] [], .cells [vi n_17, vs l_18, vs l_19, vi n_20, vi n_21, vu n_22, vs l_23, vl b_24 l_25, vl b_26 l_27, vl b_28 l_29, vs l_30, vl b_31 l_32] []]) .ret) (asB (gD 5 0 a 1) fun g => asB (gD 5 0 c 1) fun h => brB (!g == h) (.call (.at_ 36 0 [true, true, false, false, true, false, false, true, false, true, true, true] (sv 139 [(2, .p 0 0), (3, .p 1 0), (6, vi n_0), (138, vb true)]) [] [.cells [vi n_1, vs l_2, vs l_3, vi n_4, vi n_5, vu n_6, vs l_7, vl b_8 l_9, vl b_10 l_11, vl b_12 l_13, vs l_14, vl b_15 l_16] [], .cells [vi n_17, vs l_18, vs l_19, vi n_20, vi n_21, vu n_22, vs l_23, vl b_24 l_25, vl b_26 l_27, vl b_28 l_29, vs l_30, vl b_31 l_32] []]) .ret) (asS (gD 5 0 a 2) fun j => asS (gD 5 0 c 2) fun k => brB (!j == k) (.call (.at_ 36 0 [true, true, false, false, true, false, false, true, false, true, true, true] (sv 139 [(2, .p 0 0), (3, .p 1 0), (6, vi n_0), (138, vb true)]) [] [.cells [vi n_1, vs l_2, vs l_3, vi n_4, vi n_5, vu n_6, vs l_7, vl b_8 l_9, vl b_10 l_11, vl b_12 l_13, vs l_14, vl b_15 l_16] [], .cells [vi n_17, vs l_18, vs l_19, vi n_20, vi n_21, vu n_22, vs l_23, vl b_24 l_25, vl b_26 l_27, vl b_28 l_29, vs l_30, vl b_31 l_32] []]) .ret) (cV (.call 70 [.d (gD 5 0 a 3), .d (gD 5 0 c 3)] []) fun m => aB m fun n => brB (!n) (.call (.at_ 36 0 [true, true, false, false, true, false, false, true, false, true, true, true] (sv 139 [(2, .p 0 0), (3, .p 1 0), (6, vi n_0), (138, vb true)]) [] [.cells [vi n_1, vs l_2, vs l_3, vi n_4, vi n_5, vu n_6, vs l_7, vl b_8 l_9, vl b_10 l_11, vl b_12 l_13, vs l_14, vl b_15 l_16] [], .cells [vi n_17, vs l_18, vs l_19, vi n_20, vi n_21, vu n_22, vs l_23, vl b_24 l_25, vl b_26 l_27, vl b_28 l_29, vs l_30, vl b_31 l_32] []]) .ret) (cV (.call 70 [.d (gD 5 0 a 4), .d (gD 5 0 c 4)] []) fun o => aB o fun q => .call (.at_ 36 0 [true, true, false, false, true, false, false, true, false, true, true, true] (sv 139 [(2, .p 0 0), (3, .p 1 0), (6, vi n_0), (138, vb !q)]) [] [.cells [vi n_1, vs l_2, vs l_3, vi n_4, vi n_5, vu n_6, vs l_7, vl b_8 l_9, vl b_10 l_11, vl b_12 l_13, vs l_14, vl b_15 l_16] [], .cells [vi n_17, vs l_18, vs l_19, vi n_20, vi n_21, vu n_22, vs l_23, vl b_24 l_25, vl b_26 l_27, vl b_28 l_29, vs l_30, vl b_31 l_32] []]) .ret))))))) (.ret (vb true, []))) :=
 rk_of (by kernel_rfl)
theorem y15_at87 (n_0 : Int) (b_1 : Bool) (l_2 : List D) (b_3 : Bool) (l_4 : List D) (b_5 : Bool) (l_6 : List D) (b_7 : Bool) (l_8 : List D) (b_9 : Bool) (l_10 : List D) (b_11 : Bool) (l_12 : List D) : rk Tryz.prog polY (.at_ 15 0 [false, true, false, true, true, true] (sv 88 [(2, .p 0 0), (3, .p 1 0), (6, vi n_0)]) [] [.cells [vl b_1 l_2, vl b_3 l_4, vl b_5 l_6] [], .cells [vl b_7 l_8, vl b_9 l_10, vl b_11 l_12] []]) = interp (rk Tryz.prog polY) (brB (decide (n_0 < (l_10.length : Int))) (eL l_10 n_0 2 fun a => eL l_4 n_0 2 fun c => ob (eqG [3, 3] (.d (.g [gD 2 0 a 0, gD 2 0 a 1])) (.d (.g [gD 2 0 c 0, gD 2 0 c 1]))) fun e => brB (!e) (.ret (vb false, [])) (.call (.at_ 15 0 [false, true, false, true, true, true] (sv 88 [(2, .p 0 0), (3, .p 1 0), (6, vi (IntKind.i64.wrap (n_0 + 1)))]) [] [.cells [vl b_1 l_2, vl b_3 l_4, vl b_5 l_6] [], .cells [vl b_7 l_8, vl b_9 l_10, vl b_11 l_12] []]) .ret)) (.call (.at_ 15 0 [false, true, false, true, true, true, true] (sv 88 [(2, .p 0 0), (3, .p 1 0), (7, vi 0)]) [] [.cells [vl b_1 l_2, vl b_3 l_4, vl b_5 l_6] [], .cells [vl b_7 l_8, vl b_9 l_10, vl b_11 l_12] []]) .ret)) :=
 rk_of (by kernel_rfl)
theorem y36_at7319 (n_0 : Int) (b_1 : Bool) (n_2 : Int) (l_3 l_4 : List UInt8) (n_5 n_6 n_7 : Int) (l_8 : List UInt8) (b_9 : Bool) (l_10 : List D) (b_11 : Bool) (l_12 : List D) (b_13 : Bool) (l_14 : List D) (l_15 : List UInt8) (b_16 : Bool) (l_17 : List D) (n_18 : Int) (l_19 l_20 : List UInt8) (n_21 n_22 n_23 : Int) (l_24 : List UInt8) (b_25 : Bool) (l_26 : List D) (b_27 : Bool) (l_28 : List D) (b_29 : Bool) (l_30 : List D) (l_31 : List UInt8) (b_32 : Bool) (l_33 : List D) : rk Tryz.prog polY (.at_ 36 0 [true, true, false, false, true, false, false, true, false, true, true, true] (sv 139 [(2, .p 0 0), (3, .p 1 0), (6, vi n_0), (138, vb b_1)]) [] [.cells [vi n_2, vs l_3, vs l_4, vi n_5, vi n_6, vu n_7, vs l_8, vl b_9 l_10, vl b_11 l_12, vl b_13 l_14, vs l_15, vl b_16 l_17] [], .cells [vi n_18, vs l_19, vs l_20, vi n_21, vi n_22, vu n_23, vs l_24, vl b_25 l_26, vl b_27 l_28, vl b_29 l_30, vs l_31, vl b_32 l_33] []]) = interp (rk Tryz.prog polY) (brB b_1 (.ret (vb false, [])) (.call (.at_ 36 0 [false, true, false, true, true, true] (sv 139 [(2, .p 0 0), (3, .p 1 0), (6, vi (IntKind.i64.wrap (n_0 + 1)))]) [] [.cells [vi n_2, vs l_3, vs l_4, vi n_5, vi n_6, vu n_7, vs l_8, vl b_9 l_10, vl b_11 l_12, vl b_13 l_14, vs l_15, vl b_16 l_17] [], .cells [vi n_18, vs l_19, vs l_20, vi n_21, vi n_22, vu n_23, vs l_24, vl b_25 l_26, vl b_27 l_28, vl b_29 l_30, vs l_31, vl b_32 l_33] []]) .ret)) :=
 rk_of (by kernel_rfl)
theorem y15_at175 (n_0 : Int) (b_1 : Bool) (l_2 : List D) (b_3 : Bool) (l_4 : List D) (b_5 : Bool) (l_6 : List D) (b_7 : Bool) (l_8 : List D) (b_9 : Bool) (l_10 : List D) (b_11 : Bool) (l_12 : List D) : rk Tryz.prog polY (.at_ 15 0 [false, true, false, true, true, true, true] (sv 88 [(2, .p 0 0), (3, .p 1 0), (7, vi n_0)]) [] [.cells [vl b_1 l_2, vl b_3 l_4, vl b_5 l_6] [], .cells [vl b_7 l_8, vl b_9 l_10, vl b_11 l_12] []]) = interp (rk Tryz.prog polY) (brB (decide (n_0 < (l_12.length : Int))) (eL l_12 n_0 12 fun a => eL l_6 n_0 12 fun c => cV (.call 36 [.d (.g [gD 12 0 a 0, gD 12 0 a 1, gD 12 0 a 2, gD 12 0 a 3, gD 12 0 a 4, gD 12 0 a 5, gD 12 0 a 6, gD 12 0 a 7, gD 12 0 a 8, gD 12 0 a 9, gD 12 0 a 10, gD 12 0 a 11]), .d (.g [gD 12 0 c 0, gD 12 0 c 1, gD 12 0 c 2, gD 12 0 c 3, gD 12 0 c 4, gD 12 0 c 5, gD 12 0 c 6, gD 12 0 c 7, gD 12 0 c 8, gD 12 0 c 9, gD 12 0 c 10, gD 12 0 c 11])] []) fun e => aB e fun f => brB (!f) (.ret (vb false, [])) (.call (.at_ 15 0 [false, true, false, true, true, true, true] (sv 88 [(2, .p 0 0), (3, .p 1 0), (7, vi (IntKind.i64.wrap (n_0 + 1)))]) [] [.cells [vl b_1 l_2, vl b_3 l_4, vl b_5 l_6] [], .cells [vl b_7 l_8, vl b_9 l_10, vl b_11 l_12] []]) .ret)) (.ret (vb true, []))) :=
 rk_of (by kernel_rfl)
end Go.Dn.Dec
namespace Go.Dn.Dec
open Go.Proofs
set_option linter.unusedVariables false
set_option linter.unusedSimpArgs false
section
variable {f : Task → Option Out}
theorem st_and {c e : Bool} {A : Tr} (h : c = true → interp f A = some (.d (.b e), [])) : interp f (brB c A (.ret (.d (.b false), []))) = some (.d (.b (c && e)), []) := by
 cases c with
 | true => rw [st_T, h rfl]; rfl
 | false => rw [st_F]; rfl
theorem st_nand {c e : Bool} {X Y : Tr} (hx : c = true → interp f X = some (.d (.b false), [])) (hy : c = false → interp f Y = some (.d (.b e), [])) : interp f (brB c X Y) = some (.d (.b (!c && e)), []) := by
 cases c with
 | true => rw [st_T, hx rfl]; rfl
 | false => rw [st_F, hy rfl]; rfl
theorem st_Be {t : Task} {b e : Bool} {K : Bool → Tr} (h : f t = some (.d (.b b), [])) (hk : interp f (K b) = some (.d (.b e), [])) :
  interp f (.call t fun o => ift o.snd.isEmpty (asD o.fst fun d => asB d fun x => K x)) = some (.d (.b e), []) := (st_B h).trans hk
theorem st_Br {t : Task} {b : Bool} (h : f t = some (.d (.b b), [])) :
  interp f (.call t fun o => ift o.snd.isEmpty (asD o.fst fun d => asB d fun x => Tr.ret (.d (.b x), []))) = some (.d (.b b), []) := (st_B h).trans rfl
end
theorem asI_64 (n : Int) (K : Int → Tr) : asI .i64 (.i .i64 n) K = K n := rfl
theorem bcast {f : Task → Option Out} {T : Tr} {a b : Bool} (h : interp f T = some (.d (.b a), [])) (e : a = b) : interp f T = some (.d (.b b), []) := e ▸ h
def SameOk (k : Nat) (W : D → Prop) (eq : D → D → Bool) : Prop := ∀ x y, W x → W y → RY (Task.call k [V.d x, V.d y] []) = some (.d (.b (eq x y)), [])
theorem eqL_len {g : D → D → Bool} : ∀ {l m : List D}, l.length ≠ m.length → eqL g l m = false
 | [], [], h => absurd rfl h
 | [], _ :: _, _ => rfl
 | _ :: _, [], _ => rfl
 | a :: l, b :: m, h => by
  have : l.length ≠ m.length := fun e => h (by simp [e])
  simp only [eqL, eqL_len this, Bool.and_false]
theorem eqCs_eqL : ∀ l m : List D, eqCs l m = eqL eqC l m
 | [], [] => by simp only [eqCs, eqL]
 | [], _ :: _ => by simp only [eqCs, eqL]
 | _ :: _, [] => by simp only [eqCs, eqL]
 | a :: l, b :: m => by simp only [eqCs, eqL, eqCs_eqL l m]
theorem len_ne (a b : Nat) : ((a : Int) != (b : Int)) = !(a == b) := by
 by_cases h : a = b
 ·subst h; simp
 ·have h1 : (a == b) = false := beq_eq_false_iff_ne.2 h
  have h2 : ((a : Int) == (b : Int)) = false := beq_eq_false_iff_ne.2 (by omega)
  simp only [bne, h1, h2]
theorem eqL_and {g : D → D → Bool} (l m : List D) : (l.length == m.length && eqL g l m) = eqL g l m := by
 by_cases h : l.length = m.length
 ·simp [h]
 ·rw [eqL_len h, Bool.and_false]
theorem wme_w2 {x : D} (h : WMe x) : x.width = 5 := by obtain ⟨_, _, _, _, _, _, _, rfl, _⟩ := h; rfl
theorem wd_w2 {x : D} (h : WD x) : x.width = 12 := by obtain ⟨_, _, _, _, _, _, _, _, _, _, _, _, _, _, _, _, rfl, _⟩ := h; rfl
theorem wf_width2 {x : D} (h : WF x) : x.width = 11 := by obtain ⟨_, _, _, _, _, _, _, _, _, _, _, _, rfl, _⟩ := h; rfl
theorem efC_loop {d : Nat} (hC : SameOk 63 (WC d) eqC) (l m : List D) (b c : Bool) (hl : ∀ y ∈ l, (WC d) y) (hm : ∀ y ∈ m, (WC d) y) (hll : l.length ≤ 1000) : ∀ (r q p z : List D), p ++ r = l → z ++ q = m → p.length = z.length → r.length = q.length →
  RY (Task.at_ 126 0 [false, true, false, true, true] (sv 32 [(1, V.d (D.l c m)), (2, V.f 63 []), (15, V.d (D.l b l)), (16, V.d (D.i IntKind.i64 (l.length : Int))), (17, V.d (D.i IntKind.i64 (p.length : Int)))]) [] []) = some (.d (.b (eqL eqC r q)), [])
 | [], [], p, z, e1, e2, h1, h2 => by
  rw [List.append_nil] at e1
  subst e1
  rw [RY, y126_at43, st_f (by omega)]; rfl
 | [], _ :: _, p, z, e1, e2, h1, h2 => by simp at h2
 | _ :: _, [], p, z, e1, e2, h1, h2 => by simp at h2
 | x :: r, y :: q, p, z, e1, e2, h1, h2 => by
  have hlen : l.length = p.length + (r.length + 1) := by rw [← e1]; simp
  have w1 : IntKind.i64.wrap ((p.length : Int) + 1) = ((p.length + 1 : Nat) : Int) := by rw [wrap_i64] <;> omega
  have hx := hl x (by rw [← e1]; simp)
  have hy := hm y (by rw [← e2]; simp)
  have g1 : l[p.length]? = some x := by rw [← e1]; simp
  have g2 : m[p.length]? = some y := by rw [← e2, h1]; simp
  have ih := efC_loop hC l m b c hl hm hll r q (p ++ [x]) (z ++ [y]) (by rw [← e1]; simp) (by rw [← e2]; simp) (by simp [h1]) (by simpa using h2)
  rw [show (p ++ [x]).length = p.length + 1 by simp] at ih
  have hc := hC x y hx hy
  rw [RY, y126_at43, st_t (by omega)]
  refine (y_el g1 (wc_width hx)).trans ?_
  cases d with
  | zero => exact hx.elim
  | succ d =>
  obtain ⟨_, _, _, _, _, _, rfl, _⟩ := hx
  refine st_ift.trans ?_
  refine (y_el g2 (wc_width hy)).trans ?_
  obtain ⟨_, _, _, _, _, _, rfl, _⟩ := hy
  refine st_ift.trans ?_
  refine st_Be hc ?_
  rw [w1]
  refine bcast (st_nand (fun _ => rfl) (fun _ => st_ret ih)) ?_
  simp only [Bool.not_not, eqL]
theorem efC_s {d : Nat} (hC : SameOk 63 (WC d) eqC) (l m : List D) (b c : Bool) (hl : ∀ y ∈ l, (WC d) y) (hm : ∀ y ∈ m, (WC d) y) (hll : l.length ≤ 1000) : RY (Task.call 126 [V.d (D.l b l), V.d (D.l c m), V.f 63 []] []) = some (.d (.b (eqL eqC l m)), []) := by
 rw [RY, y126]
 by_cases h : l.length = m.length
 ·rw [st_ne_f (by omega)]
  exact st_ret (efC_loop hC l m b c hl hm hll l m [] [] rfl rfl rfl h)
 ·rw [st_ne_t (by omega), eqL_len h]; rfl
theorem efF_loop (hC : SameOk 65 WF eqF) (l m : List D) (b c : Bool) (hl : ∀ y ∈ l, WF y) (hm : ∀ y ∈ m, WF y) (hll : l.length ≤ 1000) : ∀ (r q p z : List D), p ++ r = l → z ++ q = m → p.length = z.length → r.length = q.length →
  RY (Task.at_ 64 0 [false, true, false, true, true] (sv 32 [(1, V.d (D.l c m)), (2, V.f 65 []), (15, V.d (D.l b l)), (16, V.d (D.i IntKind.i64 (l.length : Int))), (17, V.d (D.i IntKind.i64 (p.length : Int)))]) [] []) = some (.d (.b (eqL eqF r q)), [])
 | [], [], p, z, e1, e2, h1, h2 => by
  rw [List.append_nil] at e1
  subst e1
  rw [RY, y64_at43, st_f (by omega)]; rfl
 | [], _ :: _, p, z, e1, e2, h1, h2 => by simp at h2
 | _ :: _, [], p, z, e1, e2, h1, h2 => by simp at h2
 | x :: r, y :: q, p, z, e1, e2, h1, h2 => by
  have hlen : l.length = p.length + (r.length + 1) := by rw [← e1]; simp
  have w1 : IntKind.i64.wrap ((p.length : Int) + 1) = ((p.length + 1 : Nat) : Int) := by rw [wrap_i64] <;> omega
  have hx := hl x (by rw [← e1]; simp)
  have hy := hm y (by rw [← e2]; simp)
  have g1 : l[p.length]? = some x := by rw [← e1]; simp
  have g2 : m[p.length]? = some y := by rw [← e2, h1]; simp
  have ih := efF_loop hC l m b c hl hm hll r q (p ++ [x]) (z ++ [y]) (by rw [← e1]; simp) (by rw [← e2]; simp) (by simp [h1]) (by simpa using h2)
  rw [show (p ++ [x]).length = p.length + 1 by simp] at ih
  have hc := hC x y hx hy
  rw [RY, y64_at43, st_t (by omega)]
  refine (y_el g1 (wf_width2 hx)).trans ?_
  obtain ⟨_, _, _, _, _, _, _, _, _, _, _, _, rfl, _⟩ := hx
  refine st_ift.trans ?_
  refine (y_el g2 (wf_width2 hy)).trans ?_
  obtain ⟨_, _, _, _, _, _, _, _, _, _, _, _, rfl, _⟩ := hy
  refine st_ift.trans ?_
  refine st_Be hc ?_
  rw [w1]
  refine bcast (st_nand (fun _ => rfl) (fun _ => st_ret ih)) ?_
  simp only [Bool.not_not, eqL]
theorem efF_s (hC : SameOk 65 WF eqF) (l m : List D) (b c : Bool) (hl : ∀ y ∈ l, WF y) (hm : ∀ y ∈ m, WF y) (hll : l.length ≤ 1000) : RY (Task.call 64 [V.d (D.l b l), V.d (D.l c m), V.f 65 []] []) = some (.d (.b (eqL eqF l m)), []) := by
 rw [RY, y64]
 by_cases h : l.length = m.length
 ·rw [st_ne_f (by omega)]
  exact st_ret (efF_loop hC l m b c hl hm hll l m [] [] rfl rfl rfl h)
 ·rw [st_ne_t (by omega), eqL_len h]; rfl
theorem efM_loop (hC : SameOk 68 WMe eqMe) (l m : List D) (b c : Bool) (hl : ∀ y ∈ l, WMe y) (hm : ∀ y ∈ m, WMe y) (hll : l.length ≤ 1000) : ∀ (r q p z : List D), p ++ r = l → z ++ q = m → p.length = z.length → r.length = q.length →
  RY (Task.at_ 67 0 [false, true, false, true, true] (sv 32 [(1, V.d (D.l c m)), (2, V.f 68 []), (15, V.d (D.l b l)), (16, V.d (D.i IntKind.i64 (l.length : Int))), (17, V.d (D.i IntKind.i64 (p.length : Int)))]) [] []) = some (.d (.b (eqL eqMe r q)), [])
 | [], [], p, z, e1, e2, h1, h2 => by
  rw [List.append_nil] at e1
  subst e1
  rw [RY, y67_at43, st_f (by omega)]; rfl
 | [], _ :: _, p, z, e1, e2, h1, h2 => by simp at h2
 | _ :: _, [], p, z, e1, e2, h1, h2 => by simp at h2
 | x :: r, y :: q, p, z, e1, e2, h1, h2 => by
  have hlen : l.length = p.length + (r.length + 1) := by rw [← e1]; simp
  have w1 : IntKind.i64.wrap ((p.length : Int) + 1) = ((p.length + 1 : Nat) : Int) := by rw [wrap_i64] <;> omega
  have hx := hl x (by rw [← e1]; simp)
  have hy := hm y (by rw [← e2]; simp)
  have g1 : l[p.length]? = some x := by rw [← e1]; simp
  have g2 : m[p.length]? = some y := by rw [← e2, h1]; simp
  have ih := efM_loop hC l m b c hl hm hll r q (p ++ [x]) (z ++ [y]) (by rw [← e1]; simp) (by rw [← e2]; simp) (by simp [h1]) (by simpa using h2)
  rw [show (p ++ [x]).length = p.length + 1 by simp] at ih
  have hc := hC x y hx hy
  rw [RY, y67_at43, st_t (by omega)]
  refine (y_el g1 (wme_w2 hx)).trans ?_
  obtain ⟨_, _, _, _, _, _, _, rfl, _⟩ := hx
  refine st_ift.trans ?_
  refine (y_el g2 (wme_w2 hy)).trans ?_
  obtain ⟨_, _, _, _, _, _, _, rfl, _⟩ := hy
  refine st_ift.trans ?_
  refine st_Be hc ?_
  rw [w1]
  refine bcast (st_nand (fun _ => rfl) (fun _ => st_ret ih)) ?_
  simp only [Bool.not_not, eqL]
theorem efM_s (hC : SameOk 68 WMe eqMe) (l m : List D) (b c : Bool) (hl : ∀ y ∈ l, WMe y) (hm : ∀ y ∈ m, WMe y) (hll : l.length ≤ 1000) : RY (Task.call 67 [V.d (D.l b l), V.d (D.l c m), V.f 68 []] []) = some (.d (.b (eqL eqMe l m)), []) := by
 rw [RY, y67]
 by_cases h : l.length = m.length
 ·rw [st_ne_f (by omega)]
  exact st_ret (efM_loop hC l m b c hl hm hll l m [] [] rfl rfl rfl h)
 ·rw [st_ne_t (by omega), eqL_len h]; rfl
theorem efD_loop (hC : SameOk 35 WD eqD) (l m : List D) (b c : Bool) (hl : ∀ y ∈ l, WD y) (hm : ∀ y ∈ m, WD y) (hll : l.length ≤ 1000) : ∀ (r q p z : List D), p ++ r = l → z ++ q = m → p.length = z.length → r.length = q.length →
  RY (Task.at_ 34 0 [false, true, false, true, true] (sv 32 [(1, V.d (D.l c m)), (2, V.f 35 []), (15, V.d (D.l b l)), (16, V.d (D.i IntKind.i64 (l.length : Int))), (17, V.d (D.i IntKind.i64 (p.length : Int)))]) [] []) = some (.d (.b (eqL eqD r q)), [])
 | [], [], p, z, e1, e2, h1, h2 => by
  rw [List.append_nil] at e1
  subst e1
  rw [RY, y34_at43, st_f (by omega)]; rfl
 | [], _ :: _, p, z, e1, e2, h1, h2 => by simp at h2
 | _ :: _, [], p, z, e1, e2, h1, h2 => by simp at h2
 | x :: r, y :: q, p, z, e1, e2, h1, h2 => by
  have hlen : l.length = p.length + (r.length + 1) := by rw [← e1]; simp
  have w1 : IntKind.i64.wrap ((p.length : Int) + 1) = ((p.length + 1 : Nat) : Int) := by rw [wrap_i64] <;> omega
  have hx := hl x (by rw [← e1]; simp)
  have hy := hm y (by rw [← e2]; simp)
  have g1 : l[p.length]? = some x := by rw [← e1]; simp
  have g2 : m[p.length]? = some y := by rw [← e2, h1]; simp
  have ih := efD_loop hC l m b c hl hm hll r q (p ++ [x]) (z ++ [y]) (by rw [← e1]; simp) (by rw [← e2]; simp) (by simp [h1]) (by simpa using h2)
  rw [show (p ++ [x]).length = p.length + 1 by simp] at ih
  have hc := hC x y hx hy
  rw [RY, y34_at43, st_t (by omega)]
  refine (y_el g1 (wd_w2 hx)).trans ?_
  obtain ⟨_, _, _, _, _, _, _, _, _, _, _, _, _, _, _, _, rfl, _⟩ := hx
  refine st_ift.trans ?_
  refine (y_el g2 (wd_w2 hy)).trans ?_
  obtain ⟨_, _, _, _, _, _, _, _, _, _, _, _, _, _, _, _, rfl, _⟩ := hy
  refine st_ift.trans ?_
  refine st_Be hc ?_
  rw [w1]
  refine bcast (st_nand (fun _ => rfl) (fun _ => st_ret ih)) ?_
  simp only [Bool.not_not, eqL]
theorem efD_s (hC : SameOk 35 WD eqD) (l m : List D) (b c : Bool) (hl : ∀ y ∈ l, WD y) (hm : ∀ y ∈ m, WD y) (hll : l.length ≤ 1000) : RY (Task.call 34 [V.d (D.l b l), V.d (D.l c m), V.f 35 []] []) = some (.d (.b (eqL eqD l m)), []) := by
 rw [RY, y34]
 by_cases h : l.length = m.length
 ·rw [st_ne_f (by omega)]
  exact st_ret (efD_loop hC l m b c hl hm hll l m [] [] rfl rfl rfl h)
 ·rw [st_ne_t (by omega), eqL_len h]; rfl
theorem eqvI_loop (l m : List D) (b c : Bool) (hl : ∀ y ∈ l, WI y) (hm : ∀ y ∈ m, WI y) (hll : l.length ≤ 1000) : ∀ (r q p z : List D), p ++ r = l → z ++ q = m → p.length = z.length → r.length = q.length →
  RY (Task.at_ 32 0 [false, true, false, true, true] (sv 26 [(0, V.d (D.l b l)), (1, V.d (D.l c m)), (12, V.d (D.i IntKind.i64 (l.length : Int))), (13, V.d (D.i IntKind.i64 (p.length : Int)))]) [] []) = some (.d (.b (eqL eqI r q)), [])
 | [], [], p, z, e1, e2, h1, h2 => by
  rw [List.append_nil] at e1
  subst e1
  rw [RY, y32_at43, st_f (by omega)]; rfl
 | [], _ :: _, p, z, e1, e2, h1, h2 => by simp at h2
 | _ :: _, [], p, z, e1, e2, h1, h2 => by simp at h2
 | x :: r, y :: q, p, z, e1, e2, h1, h2 => by
  have hlen : l.length = p.length + (r.length + 1) := by rw [← e1]; simp
  have w1 : IntKind.i64.wrap ((p.length : Int) + 1) = ((p.length + 1 : Nat) : Int) := by rw [wrap_i64] <;> omega
  have hx := hl x (by rw [← e1]; simp)
  have hy := hm y (by rw [← e2]; simp)
  have g1 : l[p.length]? = some x := by rw [← e1]; simp
  have g2 : m[p.length]? = some y := by rw [← e2, h1]; simp
  have ih := eqvI_loop l m b c hl hm hll r q (p ++ [x]) (z ++ [y]) (by rw [← e1]; simp) (by rw [← e2]; simp) (by simp [h1]) (by simpa using h2)
  rw [show (p ++ [x]).length = p.length + 1 by simp] at ih
  rw [RY, y32_at43, st_t (by omega)]
  obtain ⟨s1, rfl, _⟩ := hx
  obtain ⟨s2, rfl, _⟩ := hy
  rw [yl_S g1, yl_S g2, w1]
  refine bcast (st_nand (fun _ => rfl) (fun _ => st_ret ih)) ?_
  simp only [Bool.not_not, eqL, eqI]
theorem eqvI_s (l m : List D) (b c : Bool) (hl : ∀ y ∈ l, WI y) (hm : ∀ y ∈ m, WI y) (hll : l.length ≤ 1000) : RY (Task.call 32 [V.d (D.l b l), V.d (D.l c m)] []) = some (.d (.b (eqL eqI l m)), []) := by
 rw [RY, y32]
 by_cases h : l.length = m.length
 ·rw [st_ne_f (by omega)]
  exact st_ret (eqvI_loop l m b c hl hm hll l m [] [] rfl rfl rfl h)
 ·rw [st_ne_t (by omega), eqL_len h]; rfl
theorem eqvS_loop (l m : List D) (b c : Bool) (hl : ∀ y ∈ l, WS y) (hm : ∀ y ∈ m, WS y) (hll : l.length ≤ 1000) : ∀ (r q p z : List D), p ++ r = l → z ++ q = m → p.length = z.length → r.length = q.length →
  RY (Task.at_ 33 0 [false, true, false, true, true] (sv 26 [(0, V.d (D.l b l)), (1, V.d (D.l c m)), (12, V.d (D.i IntKind.i64 (l.length : Int))), (13, V.d (D.i IntKind.i64 (p.length : Int)))]) [] []) = some (.d (.b (eqL eqS r q)), [])
 | [], [], p, z, e1, e2, h1, h2 => by
  rw [List.append_nil] at e1
  subst e1
  rw [RY, y33_at43, st_f (by omega)]; rfl
 | [], _ :: _, p, z, e1, e2, h1, h2 => by simp at h2
 | _ :: _, [], p, z, e1, e2, h1, h2 => by simp at h2
 | x :: r, y :: q, p, z, e1, e2, h1, h2 => by
  have hlen : l.length = p.length + (r.length + 1) := by rw [← e1]; simp
  have w1 : IntKind.i64.wrap ((p.length : Int) + 1) = ((p.length + 1 : Nat) : Int) := by rw [wrap_i64] <;> omega
  have hx := hl x (by rw [← e1]; simp)
  have hy := hm y (by rw [← e2]; simp)
  have g1 : l[p.length]? = some x := by rw [← e1]; simp
  have g2 : m[p.length]? = some y := by rw [← e2, h1]; simp
  have ih := eqvS_loop l m b c hl hm hll r q (p ++ [x]) (z ++ [y]) (by rw [← e1]; simp) (by rw [← e2]; simp) (by simp [h1]) (by simpa using h2)
  rw [show (p ++ [x]).length = p.length + 1 by simp] at ih
  rw [RY, y33_at43, st_t (by omega)]
  obtain ⟨s1, s2, rfl, _⟩ := hx
  obtain ⟨s3, s4, rfl, _⟩ := hy
  refine (y_el g1 rfl).trans ?_
  refine (y_el g2 rfl).trans ?_
  refine (st_ob (a := s1 == s3 && s2 == s4) ?_).trans ?_
  ·simp [eqG, eqDs, Go.Dn.eqD]
  rw [w1]
  refine bcast (st_nand (fun _ => rfl) (fun _ => st_ret ih)) ?_
  simp only [Bool.not_not, eqL, eqS]
theorem eqvS_s (l m : List D) (b c : Bool) (hl : ∀ y ∈ l, WS y) (hm : ∀ y ∈ m, WS y) (hll : l.length ≤ 1000) : RY (Task.call 33 [V.d (D.l b l), V.d (D.l c m)] []) = some (.d (.b (eqL eqS l m)), []) := by
 rw [RY, y33]
 by_cases h : l.length = m.length
 ·rw [st_ne_f (by omega)]
  exact st_ret (eqvS_loop l m b c hl hm hll l m [] [] rfl rfl rfl h)
 ·rw [st_ne_t (by omega), eqL_len h]; rfl
theorem eqvM_loop (l m : List D) (b c : Bool) (hl : ∀ y ∈ l, WM y) (hm : ∀ y ∈ m, WM y) (hll : l.length ≤ 1000) : ∀ (r q p z : List D), p ++ r = l → z ++ q = m → p.length = z.length → r.length = q.length →
  RY (Task.at_ 66 0 [false, true, false, true, true] (sv 26 [(0, V.d (D.l b l)), (1, V.d (D.l c m)), (12, V.d (D.i IntKind.i64 (l.length : Int))), (13, V.d (D.i IntKind.i64 (p.length : Int)))]) [] []) = some (.d (.b (eqL eqM r q)), [])
 | [], [], p, z, e1, e2, h1, h2 => by
  rw [List.append_nil] at e1
  subst e1
  rw [RY, y66_at43, st_f (by omega)]; rfl
 | [], _ :: _, p, z, e1, e2, h1, h2 => by simp at h2
 | _ :: _, [], p, z, e1, e2, h1, h2 => by simp at h2
 | x :: r, y :: q, p, z, e1, e2, h1, h2 => by
  have hlen : l.length = p.length + (r.length + 1) := by rw [← e1]; simp
  have w1 : IntKind.i64.wrap ((p.length : Int) + 1) = ((p.length + 1 : Nat) : Int) := by rw [wrap_i64] <;> omega
  have hx := hl x (by rw [← e1]; simp)
  have hy := hm y (by rw [← e2]; simp)
  have g1 : l[p.length]? = some x := by rw [← e1]; simp
  have g2 : m[p.length]? = some y := by rw [← e2, h1]; simp
  have ih := eqvM_loop l m b c hl hm hll r q (p ++ [x]) (z ++ [y]) (by rw [← e1]; simp) (by rw [← e2]; simp) (by simp [h1]) (by simpa using h2)
  rw [show (p ++ [x]).length = p.length + 1 by simp] at ih
  rw [RY, y66_at43, st_t (by omega)]
  obtain ⟨s1, h1', n1, rfl, _⟩ := hx
  obtain ⟨s2, h2', n2, rfl, _⟩ := hy
  refine (y_el g1 rfl).trans ?_
  refine (y_el g2 rfl).trans ?_
  refine (st_ob (a := s1 == s2 && (h1' == h2' && n1 == n2)) ?_).trans ?_
  ·simp [eqG, eqDs, Go.Dn.eqD]
  rw [w1]
  refine bcast (st_nand (fun _ => rfl) (fun _ => st_ret ih)) ?_
  simp only [Bool.not_not, eqL, eqM]
theorem eqvM_s (l m : List D) (b c : Bool) (hl : ∀ y ∈ l, WM y) (hm : ∀ y ∈ m, WM y) (hll : l.length ≤ 1000) : RY (Task.call 66 [V.d (D.l b l), V.d (D.l c m)] []) = some (.d (.b (eqL eqM l m)), []) := by
 rw [RY, y66]
 by_cases h : l.length = m.length
 ·rw [st_ne_f (by omega)]
  exact st_ret (eqvM_loop l m b c hl hm hll l m [] [] rfl rfl rfl h)
 ·rw [st_ne_t (by omega), eqL_len h]; rfl
theorem pconst_same : ∀ d, SameOk 63 (WC d) eqC
 | 0 => fun x y h => h.elim
 | d + 1 => fun x y hx hy => by
  obtain ⟨k, n, u, s, b, l, rfl, h1, h2, h3, h4, h5, h6⟩ := hx
  obtain ⟨k', n', u', s', b', l', rfl, i1, i2, i3, i4, i5, i6⟩ := hy
  have hc := efC_s (pconst_same d) l l' b b' (fun y hy => (h6 y hy).1) (fun y hy => (i6 y hy).1) (by omega)
  rw [RY, y63]
  simp only [eqC, eqCs_eqL]
  exact st_and fun _ => st_and fun _ => st_and fun _ => st_and fun _ => st_Br hc
theorem pfield_same : SameOk 65 WF eqF := by
 intro x y hx hy
 obtain ⟨h, id, r, t, nm, hi, k, n, u, s, b, l, rfl, _, _, _, _, hw⟩ := hx
 obtain ⟨h', id', r', t', nm', hi', k', n', u', s', b', l', rfl, _, _, _, _, hw'⟩ := hy
 rw [RY, y65]
 exact st_and fun _ => st_and fun _ => st_and fun _ => st_and fun _ => st_and fun _ => st_and fun _ => st_Br (pconst_same deepC _ _ hw hw')
theorem pmethod_same : SameOk 68 WMe eqMe := by
 intro x y hx hy
 obtain ⟨nm, ow, ret, ab, al, tb, tl, rfl, _, _, h3, h4, h5, h6⟩ := hx
 obtain ⟨nm', ow', ret', ab', al', tb', tl', rfl, _, _, i3, i4, i5, i6⟩ := hy
 rw [RY, y68]
 exact st_and fun _ => st_and fun _ => st_and fun _ => st_Be (efF_s pfield_same al al' ab ab' h5 i5 (by omega)) (st_and fun _ => st_Br (efF_s pfield_same tl tl' tb tb' h6 i6 (by omega)))
theorem pdef_same : SameOk 35 WD eqD := by
 intro x y hx hy
 obtain ⟨kd, nm, ty, ck, cn, cu, cs, cb, cl, fb, fl, mb, ml, ex, tb, tl, rfl, _, _, _, _, _, h1, h2, h3, h4, h5, _, h6, h7, _⟩ := hx
 obtain ⟨kd', nm', ty', ck', cn', cu', cs', cb', cl', fb', fl', mb', ml', ex', tb', tl', rfl, _, _, _, _, _, i1, i2, i3, i4, i5, _, i6, i7, _⟩ := hy
 rw [RY, y35]
 exact st_and fun _ => st_and fun _ => st_and fun _ => st_Be (pconst_same deepC _ _ h1 i1) (st_and fun _ => st_Be (efF_s pfield_same fl fl' fb fb' h3 i3 (by omega)) (st_and fun _ => st_Be (eqvM_s ml ml' mb mb' h5 i5 (by omega)) (st_and fun _ => st_and fun _ => st_Br (efM_s pmethod_same tl tl' tb tb' h7 i7 (by omega)))))
theorem pfile_same : SameOk 14 WFi eqFi := by
 intro x y hx hy
 obtain ⟨ib, il, sb, sl, db, dl, rfl, h1, h2, h3, h4, h5, h6⟩ := hx
 obtain ⟨ib', il', sb', sl', db', dl', rfl, i1, i2, i3, i4, i5, i6⟩ := hy
 rw [RY, y14]
 exact st_Be (eqvI_s il il' ib ib' h4 i4 (by omega)) (st_and fun _ => st_Be (eqvS_s sl sl' sb sb' h5 i5 (by omega)) (st_and fun _ => st_Br (efD_s pdef_same dl dl' db db' h6 i6 (by omega))))
end Go.Dn.Dec
namespace Go.Dn.Dec
open Go.Proofs
set_option linter.unusedVariables false
set_option linter.unusedSimpArgs false
theorem rsame_loop {d : Nat} (hC : SameOk 69 (WC d) eqC) (k n u : Int) (s : List UInt8) (b : Bool) (l : List D) (k' n' u' : Int) (s' : List UInt8) (b' : Bool) (m : List D) (hl : ∀ y ∈ l, WC d y) (hm : ∀ y ∈ m, WC d y) (hll : l.length ≤ 1000) : ∀ (r q p z : List D), p ++ r = l → z ++ q = m → p.length = z.length → r.length = q.length →
  RY (Task.at_ 69 0 [false, true, false, true, true] (sv 60 [(2, V.p 0 0), (3, V.p 1 0), (5, V.d (D.i IntKind.i64 (p.length : Int)))]) [] [cO k' n' u' s' b' m, cO k n u s b l]) = some (.d (.b (eqL eqC r q)), [])
 | [], [], p, z, e1, e2, h1, h2 => by
  rw [List.append_nil] at e1
  subst e1
  rw [RY, y69_at43, st_f (by omega)]; rfl
 | [], _ :: _, p, z, e1, e2, h1, h2 => by simp at h2
 | _ :: _, [], p, z, e1, e2, h1, h2 => by simp at h2
 | x :: r, y :: q, p, z, e1, e2, h1, h2 => by
  have hlen : l.length = p.length + (r.length + 1) := by rw [← e1]; simp
  have w1 : IntKind.i64.wrap ((p.length : Int) + 1) = ((p.length + 1 : Nat) : Int) := by rw [wrap_i64] <;> omega
  have hx := hl x (by rw [← e1]; simp)
  have hy := hm y (by rw [← e2]; simp)
  have g1 : l[p.length]? = some x := by rw [← e1]; simp
  have g2 : m[p.length]? = some y := by rw [← e2, h1]; simp
  have ih := rsame_loop hC k n u s b l k' n' u' s' b' m hl hm hll r q (p ++ [x]) (z ++ [y]) (by rw [← e1]; simp) (by rw [← e2]; simp) (by simp [h1]) (by simpa using h2)
  rw [show (p ++ [x]).length = p.length + 1 by simp] at ih
  have hc := hC x y hx hy
  rw [RY, y69_at43, st_t (by omega)]
  refine (y_el g1 (wc_width hx)).trans ?_
  refine (y_el g2 (wc_width hy)).trans ?_
  cases d with
  | zero => exact hx.elim
  | succ d =>
  obtain ⟨_, _, _, _, _, _, rfl, _⟩ := hx
  obtain ⟨_, _, _, _, _, _, rfl, _⟩ := hy
  refine st_Be hc ?_
  rw [w1]
  refine bcast (st_nand (fun _ => rfl) (fun _ => st_ret ih)) ?_
  simp only [Bool.not_not, eqL]
theorem st_at {f : Task → Option Out} {t : Task} {b : Bool} (h : f t = some (.d (.b b), [])) : interp f (.call t .ret) = some (.d (.b b), []) := st_ret h
theorem rconst_same : ∀ d, SameOk 69 (WC d) eqC
 | 0 => fun x y h => h.elim
 | d + 1 => fun x y hx hy => by
  obtain ⟨k, n, u, s, b, l, rfl, h1, h2, h3, h4, h5, h6⟩ := hx
  obtain ⟨k', n', u', s', b', l', rfl, i1, i2, i3, i4, i5, i6⟩ := hy
  have t13 : RY (Task.at_ 69 0 [true, false, true] (sv 60 [(2, V.p 0 0), (3, V.p 1 0), (40, V.d (D.b true))]) [] [cO k' n' u' s' b' l', cO k n u s b l]) = some (.d (.b false), []) := by
   rw [RY, y69_at13, st_T]; rfl
  have f13 : RY (Task.at_ 69 0 [true, false, true] (sv 60 [(2, V.p 0 0), (3, V.p 1 0), (40, V.d (D.b ((l.length : Int) != (l'.length : Int))))]) [] [cO k' n' u' s' b' l', cO k n u s b l]) = some (.d (.b (eqL eqC l l')), []) := by
   rw [RY, y69_at13]
   by_cases h : l.length = l'.length
   ·rw [st_bf (by rw [len_ne]; simp [h])]
    exact st_ret (rsame_loop (rconst_same d) k n u s b l k' n' u' s' b' l' (fun y hy => (h6 y hy).1) (fun y hy => (i6 y hy).1) (by omega) l l' [] [] rfl rfl rfl h)
   ·rw [st_bt (by rw [len_ne]; simp [h]), eqL_len h]; rfl
  rw [RY, y69]
  refine bcast (st_nand (fun _ => st_at t13) fun _ => st_nand (fun _ => st_at t13) fun _ => st_nand (fun _ => st_at t13) fun _ => st_nand (fun _ => st_at t13) fun _ => st_at f13) ?_
  simp only [eqC, eqCs_eqL, bne, Bool.not_not]
theorem rfields_loop (l m : List D) (b c : Bool) (hl : ∀ y ∈ l, WF y) (hm : ∀ y ∈ m, WF y) (hll : l.length ≤ 1000) : ∀ (r q p z : List D), p ++ r = l → z ++ q = m → p.length = z.length → r.length = q.length →
  RY (Task.at_ 70 0 [false, true, false, true, true] (sv 75 [(0, V.d (D.l b l)), (1, V.d (D.l c m)), (5, V.d (D.i IntKind.i64 (p.length : Int)))]) [] []) = some (.d (.b (eqL eqF r q)), [])
 | [], [], p, z, e1, e2, h1, h2 => by
  rw [List.append_nil] at e1
  subst e1
  rw [RY, y70_at43, st_f (by omega)]; rfl
 | [], _ :: _, p, z, e1, e2, h1, h2 => by simp at h2
 | _ :: _, [], p, z, e1, e2, h1, h2 => by simp at h2
 | x :: r, y :: q, p, z, e1, e2, h1, h2 => by
  have hlen : l.length = p.length + (r.length + 1) := by rw [← e1]; simp
  have w1 : IntKind.i64.wrap ((p.length : Int) + 1) = ((p.length + 1 : Nat) : Int) := by rw [wrap_i64] <;> omega
  have hx := hl x (by rw [← e1]; simp)
  have hy := hm y (by rw [← e2]; simp)
  have g1 : l[p.length]? = some x := by rw [← e1]; simp
  have g2 : m[p.length]? = some y := by rw [← e2, h1]; simp
  have ih := rfields_loop l m b c hl hm hll r q (p ++ [x]) (z ++ [y]) (by rw [← e1]; simp) (by rw [← e2]; simp) (by simp [h1]) (by simpa using h2)
  rw [show (p ++ [x]).length = p.length + 1 by simp] at ih
  have t59 : RY (Task.at_ 70 0 [true, true, false, false, true, false, false, true, false, true, true] (sv 75 [(0, V.d (D.l b l)), (1, V.d (D.l c m)), (5, V.d (D.i IntKind.i64 (p.length : Int))), (74, V.d (D.b true))]) [] []) = some (.d (.b false), []) := by
   rw [RY, y70_at3659, st_T]; rfl
  have f59 : ∀ e : Bool, RY (Task.at_ 70 0 [true, true, false, false, true, false, false, true, false, true, true] (sv 75 [(0, V.d (D.l b l)), (1, V.d (D.l c m)), (5, V.d (D.i IntKind.i64 (p.length : Int))), (74, V.d (D.b (!e)))]) [] []) = some (.d (.b (e && eqL eqF r q)), []) := by
   intro e
   rw [RY, y70_at3659, w1]
   cases e with
   | true => rw [st_nt]; exact st_ret ih
   | false => rw [st_nf]; rfl
  rw [RY, y70_at43, st_t (by omega)]
  refine (y_el g1 (wf_width2 hx)).trans ?_
  refine (y_el g2 (wf_width2 hy)).trans ?_
  obtain ⟨h, id, r', t, nm, hi, k, n, u, s, b1, l1, rfl, _, _, _, _, hw⟩ := hx
  obtain ⟨h', id', r2, t', nm', hi', k', n', u', s', b2, l2, rfl, _, _, _, _, hw'⟩ := hy
  refine st_ift.trans ?_
  refine st_ift.trans ?_
  have hc := rconst_same deepC _ _ hw hw'
  dsimp only [gD, D.cells, List.drop, List.take, List.getD_cons_zero, List.getD_cons_succ, asB_b, asS_s, asI_64]
  refine bcast (st_nand (fun _ => st_at t59) fun _ => st_nand (fun _ => st_at t59) fun _ => st_nand (fun _ => st_at t59) fun _ => st_nand (fun _ => st_at t59) fun _ => st_nand (fun _ => st_at t59) fun _ => st_nand (fun _ => st_at t59) fun _ => st_Be hc (st_at (f59 _))) ?_
  simp only [eqL, eqF, bne, Bool.not_not, Bool.and_assoc]
theorem rfields_same (l m : List D) (b c : Bool) (hl : ∀ y ∈ l, WF y) (hm : ∀ y ∈ m, WF y) (hll : l.length ≤ 1000) : RY (Task.call 70 [V.d (D.l b l), V.d (D.l c m)] []) = some (.d (.b (eqL eqF l m)), []) := by
 rw [RY, y70]
 by_cases h : l.length = m.length
 ·rw [st_ne_f (by omega)]
  exact st_ret (rfields_loop l m b c hl hm hll l m [] [] rfl rfl rfl h)
 ·rw [st_ne_t (by omega), eqL_len h]; rfl
end Go.Dn.Dec
namespace Go.Dn.Dec
open Go.Proofs
set_option linter.unusedVariables false
set_option linter.unusedSimpArgs false
theorem rdef87 (kd : Int) (nm : List UInt8) (ty : List UInt8) (ck : Int) (cn : Int) (cu : Int) (cs : List UInt8) (cb : Bool) (cl : List D) (fb : Bool) (fl : List D) (mb : Bool) (ml : List D) (ex : List UInt8) (tb : Bool) (tl : List D) (kd1 : Int) (nm1 : List UInt8) (ty1 : List UInt8) (ck1 : Int) (cn1 : Int) (cu1 : Int) (cs1 : List UInt8) (cb1 : Bool) (cl1 : List D) (fb1 : Bool) (fl1 : List D) (mb1 : Bool) (ml1 : List D) (ex1 : List UInt8) (tb1 : Bool) (tl1 : List D) (hl : ∀ y ∈ tl, WMe y) (hm : ∀ y ∈ tl1, WMe y) (hll : tl.length ≤ 1000) : ∀ (r q p z : List D), p ++ r = tl → z ++ q = tl1 → p.length = z.length → r.length = q.length →
  RY (Task.at_ 36 0 [false, true, false, true, true, true] (sv 139 [(2, V.p 0 0), (3, V.p 1 0), (6, V.d (D.i IntKind.i64 (p.length : Int)))]) [] [dO kd1 nm1 ty1 ck1 cn1 cu1 cs1 cb1 cl1 fb1 fl1 mb1 ml1 ex1 tb1 tl1, dO kd nm ty ck cn cu cs cb cl fb fl mb ml ex tb tl]) = some (.d (.b (eqL eqMe r q)), [])
 | [], [], p, z, e1, e2, h1, h2 => by
  rw [List.append_nil] at e1
  subst e1
  rw [RY, y36_at87, st_f (by omega)]
  rfl
 | [], _ :: _, p, z, e1, e2, h1, h2 => by simp at h2
 | _ :: _, [], p, z, e1, e2, h1, h2 => by simp at h2
 | x :: r, y :: q, p, z, e1, e2, h1, h2 => by
  have hlen : tl.length = p.length + (r.length + 1) := by rw [← e1]; simp
  have w1 : IntKind.i64.wrap ((p.length : Int) + 1) = ((p.length + 1 : Nat) : Int) := by rw [wrap_i64] <;> omega
  have hx := hl x (by rw [← e1]; simp)
  have hy := hm y (by rw [← e2]; simp)
  have g1 : tl[p.length]? = some x := by rw [← e1]; simp
  have g2 : tl1[p.length]? = some y := by rw [← e2, h1]; simp
  have ih := rdef87 kd nm ty ck cn cu cs cb cl fb fl mb ml ex tb tl kd1 nm1 ty1 ck1 cn1 cu1 cs1 cb1 cl1 fb1 fl1 mb1 ml1 ex1 tb1 tl1 hl hm hll r q (p ++ [x]) (z ++ [y]) (by rw [← e1]; simp) (by rw [← e2]; simp) (by simp [h1]) (by simpa using h2)
  rw [show (p ++ [x]).length = p.length + 1 by simp] at ih
  have t59 : RY (Task.at_ 36 0 [true, true, false, false, true, false, false, true, false, true, true, true] (sv 139 [(2, V.p 0 0), (3, V.p 1 0), (6, V.d (D.i IntKind.i64 (p.length : Int))), (138, V.d (D.b true))]) [] [dO kd1 nm1 ty1 ck1 cn1 cu1 cs1 cb1 cl1 fb1 fl1 mb1 ml1 ex1 tb1 tl1, dO kd nm ty ck cn cu cs cb cl fb fl mb ml ex tb tl]) = some (.d (.b false), []) := by
   rw [RY, y36_at7319, st_T]; rfl
  have f59 : ∀ e : Bool, RY (Task.at_ 36 0 [true, true, false, false, true, false, false, true, false, true, true, true] (sv 139 [(2, V.p 0 0), (3, V.p 1 0), (6, V.d (D.i IntKind.i64 (p.length : Int))), (138, V.d (D.b (!e)))]) [] [dO kd1 nm1 ty1 ck1 cn1 cu1 cs1 cb1 cl1 fb1 fl1 mb1 ml1 ex1 tb1 tl1, dO kd nm ty ck cn cu cs cb cl fb fl mb ml ex tb tl]) = some (.d (.b (e && eqL eqMe r q)), []) := by
   intro e
   rw [RY, y36_at7319, w1]
   cases e with
   | true => rw [st_nt]; exact st_ret ih
   | false => rw [st_nf]; rfl
  rw [RY, y36_at87, st_t (by omega)]
  refine (y_el g1 (wme_w2 hx)).trans ?_
  refine (y_el g2 (wme_w2 hy)).trans ?_
  obtain ⟨xnm, xow, xret, xab, xal, xtb, xtl, rfl, _, _, h3, h4, h5, h6⟩ := hx
  obtain ⟨ynm, yow, yret, yab, yal, ytb, ytl, rfl, _, _, i3, i4, i5, i6⟩ := hy
  refine st_ift.trans ?_
  refine st_ift.trans ?_
  have c1 := rfields_same xal yal xab yab h5 i5 (by omega)
  have c2 := rfields_same xtl ytl xtb ytb h6 i6 (by omega)
  dsimp only [gD, D.cells, List.drop, List.take, List.getD_cons_zero, List.getD_cons_succ, asB_b, asS_s, asI_64]
  refine bcast (st_nand (fun _ => st_at t59) fun _ => st_nand (fun _ => st_at t59) fun _ => st_nand (fun _ => st_at t59) fun _ => st_Be c1 (st_nand (fun _ => st_at t59) fun _ => st_Be c2 (st_at (f59 _)))) ?_
  simp only [eqL, eqMe, Bool.not_not, Bool.and_assoc]
theorem rdef43 (kd : Int) (nm : List UInt8) (ty : List UInt8) (ck : Int) (cn : Int) (cu : Int) (cs : List UInt8) (cb : Bool) (cl : List D) (fb : Bool) (fl : List D) (mb : Bool) (ml : List D) (ex : List UInt8) (tb : Bool) (tl : List D) (kd1 : Int) (nm1 : List UInt8) (ty1 : List UInt8) (ck1 : Int) (cn1 : Int) (cu1 : Int) (cs1 : List UInt8) (cb1 : Bool) (cl1 : List D) (fb1 : Bool) (fl1 : List D) (mb1 : Bool) (ml1 : List D) (ex1 : List UInt8) (tb1 : Bool) (tl1 : List D) (ht : ∀ y ∈ tl, WMe y) (ht1 : ∀ y ∈ tl1, WMe y) (htl : tl.length ≤ 1000) (hlt : tl.length = tl1.length) (hl : ∀ y ∈ ml, WM y) (hm : ∀ y ∈ ml1, WM y) (hll : ml.length ≤ 1000) : ∀ (r q p z : List D), p ++ r = ml → z ++ q = ml1 → p.length = z.length → r.length = q.length →
  RY (Task.at_ 36 0 [false, true, false, true, true] (sv 139 [(2, V.p 0 0), (3, V.p 1 0), (5, V.d (D.i IntKind.i64 (p.length : Int)))]) [] [dO kd1 nm1 ty1 ck1 cn1 cu1 cs1 cb1 cl1 fb1 fl1 mb1 ml1 ex1 tb1 tl1, dO kd nm ty ck cn cu cs cb cl fb fl mb ml ex tb tl]) = some (.d (.b (eqL eqM r q && eqL eqMe tl tl1)), [])
 | [], [], p, z, e1, e2, h1, h2 => by
  rw [List.append_nil] at e1
  subst e1
  rw [RY, y36_at43, st_f (by omega)]
  exact st_ret (rdef87 kd nm ty ck cn cu cs cb cl fb fl mb p ex tb tl kd1 nm1 ty1 ck1 cn1 cu1 cs1 cb1 cl1 fb1 fl1 mb1 ml1 ex1 tb1 tl1 ht ht1 htl tl tl1 [] [] rfl rfl rfl hlt)
 | [], _ :: _, p, z, e1, e2, h1, h2 => by simp at h2
 | _ :: _, [], p, z, e1, e2, h1, h2 => by simp at h2
 | x :: r, y :: q, p, z, e1, e2, h1, h2 => by
  have hlen : ml.length = p.length + (r.length + 1) := by rw [← e1]; simp
  have w1 : IntKind.i64.wrap ((p.length : Int) + 1) = ((p.length + 1 : Nat) : Int) := by rw [wrap_i64] <;> omega
  have hx := hl x (by rw [← e1]; simp)
  have hy := hm y (by rw [← e2]; simp)
  have g1 : ml[p.length]? = some x := by rw [← e1]; simp
  have g2 : ml1[p.length]? = some y := by rw [← e2, h1]; simp
  have ih := rdef43 kd nm ty ck cn cu cs cb cl fb fl mb ml ex tb tl kd1 nm1 ty1 ck1 cn1 cu1 cs1 cb1 cl1 fb1 fl1 mb1 ml1 ex1 tb1 tl1 ht ht1 htl hlt hl hm hll r q (p ++ [x]) (z ++ [y]) (by rw [← e1]; simp) (by rw [← e2]; simp) (by simp [h1]) (by simpa using h2)
  rw [show (p ++ [x]).length = p.length + 1 by simp] at ih
  rw [RY, y36_at43, st_t (by omega)]
  obtain ⟨s1, h1', n1, rfl, _⟩ := hx
  obtain ⟨s2, h2', n2, rfl, _⟩ := hy
  refine (y_el g1 rfl).trans ?_
  refine (y_el g2 rfl).trans ?_
  refine (st_ob (a := s1 == s2 && (h1' == h2' && n1 == n2)) ?_).trans ?_
  ·simp [eqG, eqDs, Go.Dn.eqD]
  rw [w1]
  refine bcast (st_nand (fun _ => rfl) (fun _ => st_ret ih)) ?_
  simp only [Bool.not_not, eqL, eqM, Bool.and_assoc]
theorem rdef_same : SameOk 36 WD eqD := by
 intro x y hx hy
 obtain ⟨kd, nm, ty, ck, cn, cu, cs, cb, cl, fb, fl, mb, ml, ex, tb, tl, rfl, _, _, _, _, _, h1, h2, h3, h4, h5, _, h6, h7, _⟩ := hx
 obtain ⟨kd1, nm1, ty1, ck1, cn1, cu1, cs1, cb1, cl1, fb1, fl1, mb1, ml1, ex1, tb1, tl1, rfl, _, _, _, _, _, i1, i2, i3, i4, i5, _, i6, i7, _⟩ := hy
 have t13 : RY (Task.at_ 36 0 [true, false, true] (sv 139 [(2, V.p 0 0), (3, V.p 1 0), (68, V.d (D.b true))]) [] [dO kd1 nm1 ty1 ck1 cn1 cu1 cs1 cb1 cl1 fb1 fl1 mb1 ml1 ex1 tb1 tl1, dO kd nm ty ck cn cu cs cb cl fb fl mb ml ex tb tl]) = some (.d (.b false), []) := by
  rw [RY, y36_at13, st_T]; rfl
 have f13 : ml.length = ml1.length → RY (Task.at_ 36 0 [true, false, true] (sv 139 [(2, V.p 0 0), (3, V.p 1 0), (68, V.d (D.b ((tl.length : Int) != (tl1.length : Int))))]) [] [dO kd1 nm1 ty1 ck1 cn1 cu1 cs1 cb1 cl1 fb1 fl1 mb1 ml1 ex1 tb1 tl1, dO kd nm ty ck cn cu cs cb cl fb fl mb ml ex tb tl]) = some (.d (.b (eqL eqM ml ml1 && eqL eqMe tl tl1)), []) := by
  intro hml
  rw [RY, y36_at13]
  by_cases h : tl.length = tl1.length
  ·rw [st_bf (by rw [len_ne]; simp [h])]
   exact st_ret (rdef43 kd nm ty ck cn cu cs cb cl fb fl mb ml ex tb tl kd1 nm1 ty1 ck1 cn1 cu1 cs1 cb1 cl1 fb1 fl1 mb1 ml1 ex1 tb1 tl1 h7 i7 (by omega) h h5 i5 (by omega) ml ml1 [] [] rfl rfl rfl hml)
  ·rw [st_bt (by rw [len_ne]; simp [h]), eqL_len h, Bool.and_false]; rfl
 rw [RY, y36]
 refine bcast (st_nand (fun _ => st_at t13) fun _ => st_nand (fun _ => st_at t13) fun _ => st_nand (fun _ => st_at t13) fun _ => st_Be (rconst_same deepC _ _ h1 i1) (st_nand (fun _ => st_at t13) fun _ => st_Be (rfields_same fl fl1 fb fb1 h3 i3 (by omega)) (st_nand (fun _ => st_at t13) fun _ => st_nand (fun _ => st_at t13) fun _ => st_nand (fun _ => st_at t13) fun hq => st_at (f13 ?_)))) ?_
 ·rw [len_ne] at hq; simpa using hq
 ·rw [len_ne]
  have e := eqL_and (g := eqM) ml ml1
  simp only [eqD, bne, Bool.not_not]
  rw [← e]
  ac_rfl
theorem rsf175 (ib : Bool) (il : List D) (sb : Bool) (sl : List D) (db : Bool) (dl : List D) (ib1 : Bool) (il1 : List D) (sb1 : Bool) (sl1 : List D) (db1 : Bool) (dl1 : List D) (hl : ∀ y ∈ dl, WD y) (hm : ∀ y ∈ dl1, WD y) (hll : dl.length ≤ 1000) : ∀ (r q p z : List D), p ++ r = dl → z ++ q = dl1 → p.length = z.length → r.length = q.length →
  RY (Task.at_ 15 0 [false, true, false, true, true, true, true] (sv 88 [(2, V.p 0 0), (3, V.p 1 0), (7, V.d (D.i IntKind.i64 (p.length : Int)))]) [] [fiO ib1 il1 sb1 sl1 db1 dl1, fiO ib il sb sl db dl]) = some (.d (.b (eqL eqD r q)), [])
 | [], [], p, z, e1, e2, h1, h2 => by
  rw [List.append_nil] at e1
  subst e1
  rw [RY, y15_at175, st_f (by omega)]
  rfl
 | [], _ :: _, p, z, e1, e2, h1, h2 => by simp at h2
 | _ :: _, [], p, z, e1, e2, h1, h2 => by simp at h2
 | x :: r, y :: q, p, z, e1, e2, h1, h2 => by
  have hlen : dl.length = p.length + (r.length + 1) := by rw [← e1]; simp
  have w1 : IntKind.i64.wrap ((p.length : Int) + 1) = ((p.length + 1 : Nat) : Int) := by rw [wrap_i64] <;> omega
  have hx := hl x (by rw [← e1]; simp)
  have hy := hm y (by rw [← e2]; simp)
  have g1 : dl[p.length]? = some x := by rw [← e1]; simp
  have g2 : dl1[p.length]? = some y := by rw [← e2, h1]; simp
  have ih := rsf175 ib il sb sl db dl ib1 il1 sb1 sl1 db1 dl1 hl hm hll r q (p ++ [x]) (z ++ [y]) (by rw [← e1]; simp) (by rw [← e2]; simp) (by simp [h1]) (by simpa using h2)
  rw [show (p ++ [x]).length = p.length + 1 by simp] at ih
  have hc := rdef_same x y hx hy
  rw [RY, y15_at175, st_t (by omega)]
  refine (y_el g1 (wd_w2 hx)).trans ?_
  refine (y_el g2 (wd_w2 hy)).trans ?_
  obtain ⟨_, _, _, _, _, _, _, _, _, _, _, _, _, _, _, _, rfl, _⟩ := hx
  obtain ⟨_, _, _, _, _, _, _, _, _, _, _, _, _, _, _, _, rfl, _⟩ := hy
  refine st_Be hc ?_
  rw [w1]
  refine bcast (st_nand (fun _ => rfl) (fun _ => st_ret ih)) ?_
  simp only [Bool.not_not, eqL]
theorem rsf87 (ib : Bool) (il : List D) (sb : Bool) (sl : List D) (db : Bool) (dl : List D) (ib1 : Bool) (il1 : List D) (sb1 : Bool) (sl1 : List D) (db1 : Bool) (dl1 : List D) (hd : ∀ y ∈ dl, WD y) (hd1 : ∀ y ∈ dl1, WD y) (hdl : dl.length ≤ 1000) (hdd : dl.length = dl1.length) (hl : ∀ y ∈ sl, WS y) (hm : ∀ y ∈ sl1, WS y) (hll : sl.length ≤ 1000) : ∀ (r q p z : List D), p ++ r = sl → z ++ q = sl1 → p.length = z.length → r.length = q.length →
  RY (Task.at_ 15 0 [false, true, false, true, true, true] (sv 88 [(2, V.p 0 0), (3, V.p 1 0), (6, V.d (D.i IntKind.i64 (p.length : Int)))]) [] [fiO ib1 il1 sb1 sl1 db1 dl1, fiO ib il sb sl db dl]) = some (.d (.b (eqL eqS r q && eqL eqD dl dl1)), [])
 | [], [], p, z, e1, e2, h1, h2 => by
  rw [List.append_nil] at e1
  subst e1
  rw [RY, y15_at87, st_f (by omega)]
  exact st_ret (rsf175 ib il sb p db dl ib1 il1 sb1 sl1 db1 dl1 hd hd1 hdl dl dl1 [] [] rfl rfl rfl hdd)
 | [], _ :: _, p, z, e1, e2, h1, h2 => by simp at h2
 | _ :: _, [], p, z, e1, e2, h1, h2 => by simp at h2
 | x :: r, y :: q, p, z, e1, e2, h1, h2 => by
  have hlen : sl.length = p.length + (r.length + 1) := by rw [← e1]; simp
  have w1 : IntKind.i64.wrap ((p.length : Int) + 1) = ((p.length + 1 : Nat) : Int) := by rw [wrap_i64] <;> omega
  have hx := hl x (by rw [← e1]; simp)
  have hy := hm y (by rw [← e2]; simp)
  have g1 : sl[p.length]? = some x := by rw [← e1]; simp
  have g2 : sl1[p.length]? = some y := by rw [← e2, h1]; simp
  have ih := rsf87 ib il sb sl db dl ib1 il1 sb1 sl1 db1 dl1 hd hd1 hdl hdd hl hm hll r q (p ++ [x]) (z ++ [y]) (by rw [← e1]; simp) (by rw [← e2]; simp) (by simp [h1]) (by simpa using h2)
  rw [show (p ++ [x]).length = p.length + 1 by simp] at ih
  rw [RY, y15_at87, st_t (by omega)]
  obtain ⟨s1, s2, rfl, _⟩ := hx
  obtain ⟨s3, s4, rfl, _⟩ := hy
  refine (y_el g1 rfl).trans ?_
  refine (y_el g2 rfl).trans ?_
  refine (st_ob (a := s1 == s3 && s2 == s4) ?_).trans ?_
  ·simp [eqG, eqDs, Go.Dn.eqD]
  rw [w1]
  refine bcast (st_nand (fun _ => rfl) (fun _ => st_ret ih)) ?_
  simp only [Bool.not_not, eqL, eqS, Bool.and_assoc]
theorem rsf43 (ib : Bool) (il : List D) (sb : Bool) (sl : List D) (db : Bool) (dl : List D) (ib1 : Bool) (il1 : List D) (sb1 : Bool) (sl1 : List D) (db1 : Bool) (dl1 : List D) (hd : ∀ y ∈ dl, WD y) (hd1 : ∀ y ∈ dl1, WD y) (hdl : dl.length ≤ 1000) (hdd : dl.length = dl1.length) (hs : ∀ y ∈ sl, WS y) (hs1 : ∀ y ∈ sl1, WS y) (hsl : sl.length ≤ 1000) (hss : sl.length = sl1.length) (hl : ∀ y ∈ il, WI y) (hm : ∀ y ∈ il1, WI y) (hll : il.length ≤ 1000) : ∀ (r q p z : List D), p ++ r = il → z ++ q = il1 → p.length = z.length → r.length = q.length →
  RY (Task.at_ 15 0 [false, true, false, true, true] (sv 88 [(2, V.p 0 0), (3, V.p 1 0), (5, V.d (D.i IntKind.i64 (p.length : Int)))]) [] [fiO ib1 il1 sb1 sl1 db1 dl1, fiO ib il sb sl db dl]) = some (.d (.b (eqL eqI r q && (eqL eqS sl sl1 && eqL eqD dl dl1))), [])
 | [], [], p, z, e1, e2, h1, h2 => by
  rw [List.append_nil] at e1
  subst e1
  rw [RY, y15_at43, st_f (by omega)]
  exact st_ret (rsf87 ib p sb sl db dl ib1 il1 sb1 sl1 db1 dl1 hd hd1 hdl hdd hs hs1 hsl sl sl1 [] [] rfl rfl rfl hss)
 | [], _ :: _, p, z, e1, e2, h1, h2 => by simp at h2
 | _ :: _, [], p, z, e1, e2, h1, h2 => by simp at h2
 | x :: r, y :: q, p, z, e1, e2, h1, h2 => by
  have hlen : il.length = p.length + (r.length + 1) := by rw [← e1]; simp
  have w1 : IntKind.i64.wrap ((p.length : Int) + 1) = ((p.length + 1 : Nat) : Int) := by rw [wrap_i64] <;> omega
  have hx := hl x (by rw [← e1]; simp)
  have hy := hm y (by rw [← e2]; simp)
  have g1 : il[p.length]? = some x := by rw [← e1]; simp
  have g2 : il1[p.length]? = some y := by rw [← e2, h1]; simp
  have ih := rsf43 ib il sb sl db dl ib1 il1 sb1 sl1 db1 dl1 hd hd1 hdl hdd hs hs1 hsl hss hl hm hll r q (p ++ [x]) (z ++ [y]) (by rw [← e1]; simp) (by rw [← e2]; simp) (by simp [h1]) (by simpa using h2)
  rw [show (p ++ [x]).length = p.length + 1 by simp] at ih
  rw [RY, y15_at43, st_t (by omega)]
  obtain ⟨s1, rfl, _⟩ := hx
  obtain ⟨s2, rfl, _⟩ := hy
  rw [yl_S g1, yl_S g2, w1]
  refine bcast (st_nand (fun _ => rfl) (fun _ => st_ret ih)) ?_
  simp only [Bool.not_not, eqL, eqI, Bool.and_assoc]
theorem rfile_same : SameOk 15 WFi eqFi := by
 intro x y hx hy
 obtain ⟨ib, il, sb, sl, db, dl, rfl, h1, h2, h3, h4, h5, h6⟩ := hx
 obtain ⟨ib1, il1, sb1, sl1, db1, dl1, rfl, i1, i2, i3, i4, i5, i6⟩ := hy
 have t13 : RY (Task.at_ 15 0 [true, false, true] (sv 88 [(2, V.p 0 0), (3, V.p 1 0), (32, V.d (D.b true))]) [] [fiO ib1 il1 sb1 sl1 db1 dl1, fiO ib il sb sl db dl]) = some (.d (.b false), []) := by
  rw [RY, y15_at13, st_T]; rfl
 have f13 : il.length = il1.length → sl.length = sl1.length → RY (Task.at_ 15 0 [true, false, true] (sv 88 [(2, V.p 0 0), (3, V.p 1 0), (32, V.d (D.b ((dl.length : Int) != (dl1.length : Int))))]) [] [fiO ib1 il1 sb1 sl1 db1 dl1, fiO ib il sb sl db dl]) = some (.d (.b (eqL eqI il il1 && (eqL eqS sl sl1 && eqL eqD dl dl1))), []) := by
  intro hil hsl
  rw [RY, y15_at13]
  by_cases h : dl.length = dl1.length
  ·rw [st_bf (by rw [len_ne]; simp [h])]
   exact st_ret (rsf43 ib il sb sl db dl ib1 il1 sb1 sl1 db1 dl1 h6 i6 (by omega) h h5 i5 (by omega) hsl h4 i4 (by omega) il il1 [] [] rfl rfl rfl hil)
  ·rw [st_bt (by rw [len_ne]; simp [h]), eqL_len h, Bool.and_false, Bool.and_false]; rfl
 rw [RY, y15]
 refine bcast (st_nand (fun _ => st_at t13) fun hq => st_nand (fun _ => st_at t13) fun hq2 => st_at (f13 ?_ ?_)) ?_
 ·rw [len_ne] at hq; simpa using hq
 ·rw [len_ne] at hq2; simpa using hq2
 ·rw [len_ne, len_ne]
  have e := eqL_and (g := eqI) il il1
  have e2 := eqL_and (g := eqS) sl sl1
  simp only [eqFi, Bool.not_not]
  clear f13 t13
  generalize eqL eqI il il1 = a at *
  generalize eqL eqS sl sl1 = b at *
  generalize eqL eqD dl dl1 = c at *
  generalize (il.length == il1.length) = p at *
  generalize (sl.length == sl1.length) = q at *
  revert e e2
  cases a <;> cases b <;> cases c <;> cases p <;> cases q <;> decide
end Go.Dn.Dec
namespace Go.Dn.Dec
open Go.Proofs
theorem f58 (b : Bool) (xs : List D) : rk Tryz.prog pol (.call 152 [vl b xs] []) = interp (rk Tryz.prog pol) (.call (.at_ 152 0 [false, false, true, true] (sv 23 [(0, vl b xs), (3, vi (xs.length : Int))]) [] []) .ret) :=
 rk_of (by kernel_rfl)
theorem f58m (n : Nat) (cs : List V) : rk Tryz.prog pol (.call 152 [.m 0 0 n] [.cells cs []]) = interp (rk Tryz.prog pol) (.call (.at_ 152 1 [false, false, true, true] (sv 23 [(0, .m 0 0 n), (3, vi (n : Int))]) [] [.cells cs []]) .ret) :=
 rk_of (by kernel_rfl)
theorem f30 (n : Int) : rk Tryz.prog pol (.call 101 [vu n] []) = interp (rk Tryz.prog pol) (cV (.call 152 [vl true [.i .u32 (IntKind.u32.wrap n), .i .u32 (IntKind.u32.wrap (n.fdiv 4294967296))]] []) fun a => asD a fun b => asL b fun c e => .ret (vl c e, [])) :=
 rk_of (by kernel_rfl)
theorem f31 (n : Int) : rk Tryz.prog pol (.call 106 [vi n] []) = interp (rk Tryz.prog pol) (brB (decide (n < 0)) (.ret (vl true [], [])) (.call (.at_ 106 0 [false, true, false, true, true, true] (sv 17 [(0, vi n), (3, vl true [.i .u32 1]), (4, vi 0)]) [] []) .ret)) :=
 rk_of (by kernel_rfl)
theorem f29 (b : Bool) (xs : List D) (c : Bool) (ys : List D) : rk Tryz.prog pol (.call 105 [vl b xs, vl c ys] []) = interp (rk Tryz.prog pol) (ift (decide (0 ≤ IntKind.i64.wrap (IntKind.i64.wrap ((xs.length : Int) + (ys.length : Int)) + 1))) (ift (decide (IntKind.i64.wrap (IntKind.i64.wrap ((xs.length : Int) + (ys.length : Int)) + 1) = IntKind.i64.wrap (IntKind.i64.wrap ((xs.length : Int) + (ys.length : Int)) + 1))) (ift (decide (IntKind.i64.wrap (IntKind.i64.wrap ((xs.length : Int) + (ys.length : Int)) + 1) ≤ 4294967296)) (.call (.at_ 105 0 [false, true, false, true, true] (sv 68 [(0, vl b xs), (1, vl c ys), (5, .m 0 0 (IntKind.i64.wrap (IntKind.i64.wrap ((xs.length : Int) + (ys.length : Int)) + 1)).toNat), (6, vi 0)]) [] [.cells (List.replicate (IntKind.i64.wrap (IntKind.i64.wrap ((xs.length : Int) + (ys.length : Int)) + 1)).toNat (.d (.i .u32 0))) []]) .ret)))) :=
 rk_of (by kernel_rfl)
theorem f57 (b : Bool) (xs : List D) (n : Int) : rk Tryz.prog pol (.call 155 [vl b xs, vi n] []) = interp (rk Tryz.prog pol) (brB (decide (n < (xs.length : Int))) (ob (getI xs n) fun a => ift (a.width == 1) (ob xs[n.toNat]? fun c => ob c.cells[0]? fun e => asI .u32 e fun f => .ret (vu (IntKind.u64.wrap f), []))) (.ret (vu 0, []))) :=
 rk_of (by kernel_rfl)
theorem f28 (b : Bool) (xs : List D) (c : Bool) (ys : List D) : rk Tryz.prog pol (.call 109 [vl b xs, vl c ys] []) = interp (rk Tryz.prog pol) (.call (.at_ 109 0 [false, true, false, true, true, true] (sv 42 [(0, vl b xs), (1, vl c ys), (5, vl true []), (6, vu 0), (7, vi 0)]) [(5, 1)] []) .ret) :=
 rk_of (by kernel_rfl)
theorem f44 (b : Bool) (xs : List D) (c : Bool) (ys : List D) : rk Tryz.prog pol (.call 108 [vl b xs, vl c ys] []) = interp (rk Tryz.prog pol) (.call (.at_ 108 0 [false, true, false, true] (sv 30 [(0, vl b xs), (1, vl c ys), (5, vi (IntKind.i64.wrap ((if (ys.length : Int) > (xs.length : Int) then (ys.length : Int) else (xs.length : Int)) - 1)))]) [] []) .ret) :=
 rk_of (by kernel_rfl)
theorem f69 (b : Bool) (xs : List D) (c : Bool) (ys : List D) : rk Tryz.prog pol (.call 154 [vl b xs, vl c ys] []) = interp (rk Tryz.prog pol) (cV (.call 108 [vl b xs, vl c ys] []) fun a => asD a fun e => asI .i64 e fun f => brB (decide (f < 0)) (.ret (.t [vl true [], vb false], [])) (.call (.at_ 154 0 [false, true, false, true, true, true, true] (sv 40 [(0, vl b xs), (1, vl c ys), (6, vl true []), (7, vu 0), (8, vi 0)]) [(6, 1)] []) .ret)) :=
 rk_of (by kernel_rfl)
theorem f59 (b : Bool) (xs : List D) (n : Int) : rk Tryz.prog pol (.call 153 [vl b xs, vi n] []) = interp (rk Tryz.prog pol) (cV (.call 155 [vl b xs, vi (IntKind.i64.wrap (n.tdiv 32))] []) fun a => asD a fun c => asI .u64 c fun e => ift (decide (0 ≤ n.tmod 32)) (.ret (vu (IntKind.u64.wrap ((BitVec.ofInt IntKind.u64.bits (e.fdiv (2 ^ min (n.tmod 32).toNat 64)) &&& BitVec.ofInt IntKind.u64.bits 1).toNat : Int)), []))) :=
 rk_of (by kernel_rfl)
theorem f41 (b : Bool) (xs : List D) : rk Tryz.prog pol (.call 103 [vl b xs] []) = interp (rk Tryz.prog pol) (cV (.call 152 [vl b xs] []) fun a => asD a fun c => asL c fun e f => .call (.at_ 103 0 [false, false, true, true, true] (sv 22 [(3, vl e f), (4, vi (IntKind.i64.wrap (32 * (f.length : Int))))]) [] []) .ret) :=
 rk_of (by kernel_rfl)
theorem f40 (b : Bool) (xs : List D) (n : Int) : rk Tryz.prog pol (.call 102 [vl b xs, vi n] []) = interp (rk Tryz.prog pol) (ift (decide (0 ≤ IntKind.i64.wrap (IntKind.i64.wrap ((xs.length : Int) + IntKind.i64.wrap ((if 0 > n then 0 else n).tdiv 32)) + 1))) (ift (decide (IntKind.i64.wrap (IntKind.i64.wrap ((xs.length : Int) + IntKind.i64.wrap ((if 0 > n then 0 else n).tdiv 32)) + 1) = IntKind.i64.wrap (IntKind.i64.wrap ((xs.length : Int) + IntKind.i64.wrap ((if 0 > n then 0 else n).tdiv 32)) + 1))) (ift (decide (IntKind.i64.wrap (IntKind.i64.wrap ((xs.length : Int) + IntKind.i64.wrap ((if 0 > n then 0 else n).tdiv 32)) + 1) ≤ 4294967296)) (.call (.at_ 102 0 [false, true, false, true, true] (sv 53 [(0, vl b xs), (1, vi n), (5, .m 0 0 (IntKind.i64.wrap (IntKind.i64.wrap ((xs.length : Int) + IntKind.i64.wrap ((if 0 > n then 0 else n).tdiv 32)) + 1)).toNat), (6, vi 0)]) [] [.cells (List.replicate (IntKind.i64.wrap (IntKind.i64.wrap ((xs.length : Int) + IntKind.i64.wrap ((if 0 > n then 0 else n).tdiv 32)) + 1)).toNat (.d (.i .u32 0))) []]) .ret)))) :=
 rk_of (by kernel_rfl)
theorem f43 (b : Bool) (xs : List D) (c : Bool) (ys : List D) : rk Tryz.prog pol (.call 107 [vl b xs, vl c ys] []) = interp (rk Tryz.prog pol) (cV (.call 152 [vl c ys] []) fun a => asD a fun e => asL e fun f g => brB ((g.length : Int) == 0) (.ret (.t [vl true [], vl true [], vb false], [])) (ift (decide (0 ≤ IntKind.i64.wrap ((xs.length : Int) + 1))) (ift (decide (IntKind.i64.wrap ((xs.length : Int) + 1) = IntKind.i64.wrap ((xs.length : Int) + 1))) (ift (decide (IntKind.i64.wrap ((xs.length : Int) + 1) ≤ 4294967296)) (.call (.at_ 107 0 [false, true, false, true, true, true, true] (sv 60 [(0, vl b xs), (1, vl c ys), (7, .m 0 0 (IntKind.i64.wrap ((xs.length : Int) + 1)).toNat), (8, vl true []), (9, vi (IntKind.i64.wrap (IntKind.i64.wrap (32 * (xs.length : Int)) - 1)))]) [(8, 1)] [.cells (List.replicate (IntKind.i64.wrap ((xs.length : Int) + 1)).toNat (.d (.i .u32 0))) []]) .ret))))) :=
 rk_of (by kernel_rfl)
theorem f45 (b : Bool) (xs : List D) : rk Tryz.prog pol (.call 110 [vl b xs] []) = interp (rk Tryz.prog pol) (cV (.call 155 [vl b xs, vi 0] []) fun a => asD a fun c => asI .u64 c fun e => cV (.call 155 [vl b xs, vi 1] []) fun f => asD f fun g => asI .u64 g fun h => .ret (vu (IntKind.u64.wrap ((BitVec.ofInt IntKind.u64.bits e ||| BitVec.ofInt IntKind.u64.bits (IntKind.u64.wrap (h * 4294967296))).toNat : Int)), [])) :=
 rk_of (by kernel_rfl)
theorem f42 (b : Bool) (xs : List D) (c : Bool) (ys : List D) (n : Int) : rk Tryz.prog pol (.call 104 [vl b xs, vl c ys, vi n] []) = interp (rk Tryz.prog pol) (brB (decide (n ≥ 0)) (cV (.call 106 [vi n] []) fun a => asD a fun e => asL e fun f g => cV (.call 105 [vl c ys, vl f g] []) fun h => asD h fun j => asL j fun k m => cV (.call 108 [vl b xs, vl k m] []) fun o => asD o fun p => asI .i64 p fun q => .ret (vb (decide (q ≥ 0)), [])) (cV (.call 106 [vi (IntKind.i64.wrap (0 - n))] []) fun r => asD r fun s => asL s fun t zu => cV (.call 105 [vl b xs, vl t zu] []) fun v => asD v fun w => asL w fun x y => cV (.call 108 [vl x y, vl c ys] []) fun z => asD z fun a0 => asI .i64 a0 fun a1 => .ret (vb (decide (a1 ≥ 0)), []))) :=
 rk_of (by kernel_rfl)
theorem f16 (q : Int) : rk Tryz.prog pol (.call 48 [vu q] []) = interp (rk Tryz.prog pol) (brB (q.fdiv 9223372036854775808 == 1) (.call (.at_ 48 0 [true, true, true] (sv 147 [(0, vu q), (3, vs [45])]) [] []) .ret) (.call (.at_ 48 0 [true, true, true] (sv 147 [(0, vu q), (3, vs [])]) [] []) .ret)) :=
 rk_of (by kernel_rfl)
theorem f58_at19 (b_0 : Bool) (l_1 : List D) (n_2 : Int) : rk Tryz.prog pol (.at_ 152 0 [false, false, true, true] (sv 23 [(0, vl b_0 l_1), (3, vi n_2)]) [] []) = interp (rk Tryz.prog pol) (brB (decide (n_2 > 0)) (ob (getI l_1 (IntKind.i64.wrap (n_2 - 1))) fun a => ift (a.width == 1) (ob l_1[(IntKind.i64.wrap (n_2 - 1)).toNat]? fun c => ob c.cells[0]? fun e => asI .u32 e fun f => .call (.at_ 152 0 [true, false, false, false, false, true, true] (sv 23 [(0, vl b_0 l_1), (3, vi n_2), (15, vb (f == 0))]) [] []) .ret)) (.call (.at_ 152 0 [true, false, false, false, false, true, true] (sv 23 [(0, vl b_0 l_1), (3, vi n_2), (15, vb false)]) [] []) .ret)) :=
 rk_of (by kernel_rfl)
theorem f58_at19_1 (m_0 : Nat) (n_1 : Int) (l_2 : List V) : rk Tryz.prog pol (.at_ 152 1 [false, false, true, true] (sv 23 [(0, .m 0 0 m_0), (3, vi n_1)]) [] [.cells l_2 []]) = interp (rk Tryz.prog pol) (brB (decide (n_1 > 0)) (ift (decide (0 ≤ IntKind.i64.wrap (n_1 - 1) ∧ IntKind.i64.wrap (n_1 - 1) < (m_0 : Int))) (ob l_2[0 + (IntKind.i64.wrap (n_1 - 1)).toNat]? fun a => asD a fun c => asI .u32 c fun e => .call (.at_ 152 1 [true, false, false, false, false, true, true] (sv 23 [(0, .m 0 0 m_0), (3, vi n_1), (15, vb (e == 0))]) [] [.cells l_2 []]) .ret)) (.call (.at_ 152 1 [true, false, false, false, false, true, true] (sv 23 [(0, .m 0 0 m_0), (3, vi n_1), (15, vb false)]) [] [.cells l_2 []]) .ret)) :=
 rk_of (by kernel_rfl)
theorem f31_at87 (n_0 : Int) (b_1 : Bool) (l_2 : List D) (n_3 : Int) : rk Tryz.prog pol (.at_ 106 0 [false, true, false, true, true, true] (sv 17 [(0, vi n_0), (3, vl b_1 l_2), (4, vi n_3)]) [] []) = interp (rk Tryz.prog pol) (brB (decide (n_3 < n_0)) (cV (.call 105 [vl b_1 l_2, vl true [.i .u32 10]] []) fun a => asD a fun b => asL b fun c e => .call (.at_ 106 0 [false, true, false, true, true, true] (sv 17 [(0, vi n_0), (3, vl c e), (4, vi (IntKind.i64.wrap (n_3 + 1)))]) [] []) .ret) (.ret (vl b_1 l_2, []))) :=
 rk_of (by kernel_rfl)
theorem f29_at43 (b_0 : Bool) (l_1 : List D) (b_2 : Bool) (l_3 : List D) (m_4 : Nat) (n_5 : Int) (l_6 : List V) : rk Tryz.prog pol (.at_ 105 0 [false, true, false, true, true] (sv 68 [(0, vl b_0 l_1), (1, vl b_2 l_3), (5, .m 0 0 m_4), (6, vi n_5)]) [] [.cells l_6 []]) = interp (rk Tryz.prog pol) (brB (decide (n_5 < (l_1.length : Int))) (.call (.at_ 105 0 [false, true, false, true, false, false, true, false, false, true, false, true, true] (sv 68 [(0, vl b_0 l_1), (1, vl b_2 l_3), (5, .m 0 0 m_4), (6, vi n_5), (7, vu 0), (8, vi 0)]) [] [.cells l_6 []]) .ret) (c1 (.call 152 [.m 0 0 m_4] [.cells l_6 []]) l_6.length [] fun o_0 l_3 => asD o_0 fun d_5 => asL d_5 fun b_6 l_7 => .ret (vl b_6 l_7, []))) :=
 rk_of (by kernel_rfl)
theorem f28_at87 (b_0 : Bool) (l_1 : List D) (b_2 : Bool) (l_3 : List D) (b_4 : Bool) (l_5 : List D) (n_6 n_7 : Int) : rk Tryz.prog pol (.at_ 109 0 [false, true, false, true, true, true] (sv 42 [(0, vl b_0 l_1), (1, vl b_2 l_3), (5, vl b_4 l_5), (6, vu n_6), (7, vi n_7)]) [(5, 1)] []) = interp (rk Tryz.prog pol) (brB (decide (n_7 < (l_1.length : Int))) (.call (.at_ 109 0 [true, false, false, false, true, false, true, true, true] (sv 42 [(0, vl b_0 l_1), (1, vl b_2 l_3), (5, vl b_4 l_5), (6, vu n_6), (7, vi n_7), (21, vb true)]) [(5, 1)] []) .ret) (brB (decide (n_7 < (l_3.length : Int))) (.call (.at_ 109 0 [true, false, false, false, true, false, true, true, true] (sv 42 [(0, vl b_0 l_1), (1, vl b_2 l_3), (5, vl b_4 l_5), (6, vu n_6), (7, vi n_7), (21, vb true)]) [(5, 1)] []) .ret) (.call (.at_ 109 0 [true, false, false, false, true, false, true, true, true] (sv 42 [(0, vl b_0 l_1), (1, vl b_2 l_3), (5, vl b_4 l_5), (6, vu n_6), (7, vi n_7), (21, vb (decide (n_6 > 0)))]) [(5, 1)] []) .ret))) :=
 rk_of (by kernel_rfl)
theorem f44_at21 (b_0 : Bool) (l_1 : List D) (b_2 : Bool) (l_3 : List D) (n_4 : Int) : rk Tryz.prog pol (.at_ 108 0 [false, true, false, true] (sv 30 [(0, vl b_0 l_1), (1, vl b_2 l_3), (5, vi n_4)]) [] []) = interp (rk Tryz.prog pol) (brB (decide (n_4 ≥ 0)) (cV (.call 155 [vl b_0 l_1, vi n_4] []) fun a => asD a fun b => asI .u64 b fun c => cV (.call 155 [vl b_2 l_3, vi n_4] []) fun e => asD e fun f => asI .u64 f fun g => brB (decide (c < g)) (.ret (vi (-1), [])) (cV (.call 155 [vl b_0 l_1, vi n_4] []) fun h => asD h fun j => asI .u64 j fun k => cV (.call 155 [vl b_2 l_3, vi n_4] []) fun m => asD m fun n => asI .u64 n fun o => brB (decide (k > o)) (.ret (vi 1, [])) (.call (.at_ 108 0 [false, true, false, true] (sv 30 [(0, vl b_0 l_1), (1, vl b_2 l_3), (5, vi (IntKind.i64.wrap (n_4 - 1)))]) [] []) .ret))) (.ret (vi 0, []))) :=
 rk_of (by kernel_rfl)
theorem f69_at175 (b_0 : Bool) (l_1 : List D) (b_2 : Bool) (l_3 : List D) (b_4 : Bool) (l_5 : List D) (n_6 n_7 : Int) : rk Tryz.prog pol (.at_ 154 0 [false, true, false, true, true, true, true] (sv 40 [(0, vl b_0 l_1), (1, vl b_2 l_3), (6, vl b_4 l_5), (7, vu n_6), (8, vi n_7)]) [(6, 1)] []) = interp (rk Tryz.prog pol) (brB (decide (n_7 < (l_1.length : Int))) (cV (.call 155 [vl b_0 l_1, vi n_7] []) fun a => asD a fun c => asI .u64 c fun e => cV (.call 155 [vl b_2 l_3, vi n_7] []) fun f => asD f fun g => asI .u64 g fun h => ift (headOk 1 l_5) (ift (b_4 || true) (ift (decide (l_5.length + 1 ≤ 4294967296)) (.call (.at_ 154 0 [false, true, false, true, true, true, true] (sv 40 [(0, vl b_0 l_1), (1, vl b_2 l_3), (6, vl (b_4 && false) (l_5 ++ [.i .u32 (IntKind.u32.wrap (IntKind.u64.wrap (IntKind.u64.wrap (IntKind.u64.wrap (e + 4294967296) - h) - n_6)))])), (7, vu (IntKind.u64.wrap (1 - (IntKind.u64.wrap (IntKind.u64.wrap (IntKind.u64.wrap (e + 4294967296) - h) - n_6)).fdiv 4294967296))), (8, vi (IntKind.i64.wrap (n_7 + 1)))]) [(6, 1)] []) .ret)))) (cV (.call 152 [vl b_4 l_5] []) fun j => asD j fun k => asL k fun m n => .ret (.t [vl m n, vb true], []))) :=
 rk_of (by kernel_rfl)
theorem f41_at39 (b_0 : Bool) (l_1 : List D) (n_2 : Int) : rk Tryz.prog pol (.at_ 103 0 [false, false, true, true, true] (sv 22 [(3, vl b_0 l_1), (4, vi n_2)]) [] []) = interp (rk Tryz.prog pol) (brB (decide (n_2 > 0)) (cV (.call 153 [vl b_0 l_1, vi (IntKind.i64.wrap (n_2 - 1))] []) fun a => asD a fun c => asI .u64 c fun e => .call (.at_ 103 0 [true, false, false, false, false, true, true, true] (sv 22 [(3, vl b_0 l_1), (4, vi n_2), (18, vb (e == 0))]) [] []) .ret) (.call (.at_ 103 0 [true, false, false, false, false, true, true, true] (sv 22 [(3, vl b_0 l_1), (4, vi n_2), (18, vb false)]) [] []) .ret)) :=
 rk_of (by kernel_rfl)
theorem f40_at43 (b_0 : Bool) (l_1 : List D) (n_2 : Int) (m_3 : Nat) (n_4 : Int) (l_5 : List V) : rk Tryz.prog pol (.at_ 102 0 [false, true, false, true, true] (sv 53 [(0, vl b_0 l_1), (1, vi n_2), (5, .m 0 0 m_3), (6, vi n_4)]) [] [.cells l_5 []]) = interp (rk Tryz.prog pol) (brB (decide (n_4 < IntKind.i64.wrap (32 * (l_1.length : Int)))) (cV (.call 153 [vl b_0 l_1, vi n_4] []) fun a => asD a fun c => asI .u64 c fun e => brB (e == 1) (.call (.at_ 102 0 [true, false, false, true, false, false, true, false, true, true] (sv 53 [(0, vl b_0 l_1), (1, vi n_2), (5, .m 0 0 m_3), (6, vi n_4), (31, vb (decide (IntKind.i64.wrap (n_4 + n_2) ≥ 0)))]) [] [.cells l_5 []]) .ret) (.call (.at_ 102 0 [true, false, false, true, false, false, true, false, true, true] (sv 53 [(0, vl b_0 l_1), (1, vi n_2), (5, .m 0 0 m_3), (6, vi n_4), (31, vb false)]) [] [.cells l_5 []]) .ret)) (c1 (.call 152 [.m 0 0 m_3] [.cells l_5 []]) l_5.length [] fun f g => asD f fun h => asL h fun j k => .ret (vl j k, []))) :=
 rk_of (by kernel_rfl)
theorem f43_at175 (b_0 : Bool) (l_1 : List D) (b_2 : Bool) (l_3 : List D) (m_4 : Nat) (b_5 : Bool) (l_6 : List D) (n_7 : Int) (l_8 : List V) : rk Tryz.prog pol (.at_ 107 0 [false, true, false, true, true, true, true] (sv 60 [(0, vl b_0 l_1), (1, vl b_2 l_3), (7, .m 0 0 m_4), (8, vl b_5 l_6), (9, vi n_7)]) [(8, 1)] [.cells l_8 []]) = interp (rk Tryz.prog pol) (brB (decide (n_7 ≥ 0)) (cV (.call 109 [vl b_5 l_6, vl b_5 l_6] []) fun a => asD a fun c => asL c fun e f => cV (.call 153 [vl b_0 l_1, vi n_7] []) fun g => asD g fun h => asI .u64 h fun j => cV (.call 101 [vu j] []) fun k => asD k fun n => asL n fun o p => cV (.call 109 [vl e f, vl o p] []) fun q => asD q fun r => asL r fun s zu => cV (.call 154 [vl s zu, vl b_2 l_3] []) fun v => unT v fun w => ift (w.length == 2) (asD (w.getD 0 (vb false)) fun x => asL x fun y z => asD (w.getD 1 (vb false)) fun a0 => asB a0 fun a1 => brB a1 (ift (decide (0 ≤ IntKind.i64.wrap (n_7.tdiv 32) ∧ IntKind.i64.wrap (n_7.tdiv 32) < (m_4 : Int))) (ob l_8[0 + (IntKind.i64.wrap (n_7.tdiv 32)).toNat]? fun a2 => asD a2 fun a3 => asI .u32 a3 fun a4 => ift (decide (0 ≤ n_7.tmod 32)) (ift (decide (0 ≤ IntKind.i64.wrap (n_7.tdiv 32) ∧ IntKind.i64.wrap (n_7.tdiv 32) < (m_4 : Int))) (ift (decide (0 + (IntKind.i64.wrap (n_7.tdiv 32)).toNat < l_8.length) && true) (.call (.at_ 107 0 [true, true, false, false, true, false, true, true, true, true] (sv 60 [(0, vl b_0 l_1), (1, vl b_2 l_3), (7, .m 0 0 m_4), (8, vl y z), (9, vi n_7)]) [] [.cells (l_8.set (0 + (IntKind.i64.wrap (n_7.tdiv 32)).toNat) (.d (.i .u32 (IntKind.u32.wrap ((BitVec.ofInt IntKind.u32.bits a4 ||| BitVec.ofInt IntKind.u32.bits (IntKind.u32.wrap (1 * 2 ^ min (n_7.tmod 32).toNat 32))).toNat : Int))))) []]) .ret))))) (.call (.at_ 107 0 [true, true, false, false, true, false, true, true, true, true] (sv 60 [(0, vl b_0 l_1), (1, vl b_2 l_3), (7, .m 0 0 m_4), (8, vl s zu), (9, vi n_7)]) [] [.cells l_8 []]) .ret))) (c1 (.call 152 [.m 0 0 m_4] [.cells l_8 []]) l_8.length [] fun a5 a6 => asD a5 fun a7 => asL a7 fun a8 a9 => .ret (.t [vl a8 a9, vl b_5 l_6, vb true], []))) :=
 rk_of (by kernel_rfl)
theorem f16_at15 (n_0 : Int) (l_1 : List UInt8) : rk Tryz.prog pol (.at_ 48 0 [true, true, true] (sv 147 [(0, vu n_0), (3, vs l_1)]) [] []) = interp (rk Tryz.prog pol) (brB (IntKind.i64.wrap (IntKind.u64.wrap ((BitVec.ofInt IntKind.u64.bits (n_0.fdiv 4503599627370496) &&& BitVec.ofInt IntKind.u64.bits 2047).toNat : Int)) == 2047) (.ret (vs [], [])) (brB (IntKind.i64.wrap (IntKind.u64.wrap ((BitVec.ofInt IntKind.u64.bits (n_0.fdiv 4503599627370496) &&& BitVec.ofInt IntKind.u64.bits 2047).toNat : Int)) == 0) (.call (.at_ 48 0 [true, false, true, true, true, true, true, true] (sv 147 [(3, vs l_1), (4, vi (IntKind.i64.wrap (IntKind.u64.wrap ((BitVec.ofInt IntKind.u64.bits (n_0.fdiv 4503599627370496) &&& BitVec.ofInt IntKind.u64.bits 2047).toNat : Int)))), (5, vu (IntKind.u64.wrap ((BitVec.ofInt IntKind.u64.bits n_0 &&& BitVec.ofInt IntKind.u64.bits 4503599627370495).toNat : Int))), (33, vb (IntKind.u64.wrap ((BitVec.ofInt IntKind.u64.bits n_0 &&& BitVec.ofInt IntKind.u64.bits 4503599627370495).toNat : Int) == 0))]) [] []) .ret) (.call (.at_ 48 0 [true, false, true, true, true, true, true, true] (sv 147 [(3, vs l_1), (4, vi (IntKind.i64.wrap (IntKind.u64.wrap ((BitVec.ofInt IntKind.u64.bits (n_0.fdiv 4503599627370496) &&& BitVec.ofInt IntKind.u64.bits 2047).toNat : Int)))), (5, vu (IntKind.u64.wrap ((BitVec.ofInt IntKind.u64.bits n_0 &&& BitVec.ofInt IntKind.u64.bits 4503599627370495).toNat : Int))), (33, vb false)]) [] []) .ret))) :=
 rk_of (by kernel_rfl)
theorem f58_at195 (b_0 : Bool) (l_1 : List D) (n_2 : Int) (b_3 : Bool) : rk Tryz.prog pol (.at_ 152 0 [true, false, false, false, false, true, true] (sv 23 [(0, vl b_0 l_1), (3, vi n_2), (15, vb b_3)]) [] []) = interp (rk Tryz.prog pol) (brB b_3 (.call (.at_ 152 0 [false, false, true, true] (sv 23 [(0, vl b_0 l_1), (3, vi (IntKind.i64.wrap (n_2 - 1)))]) [] []) .ret) (ift (decide (0 ≤ n_2 ∧ n_2 ≤ (l_1.length : Int))) (ift (headOk 1 l_1) (ift (headOk 1 (List.take (n_2.toNat - 0) (List.drop 0 l_1))) (ift (decide (0 + (List.take (n_2.toNat - 0) (List.drop 0 l_1)).length ≤ 4294967296)) (.ret (vl (List.take (n_2.toNat - 0) (List.drop 0 l_1)).isEmpty ([] ++ List.take (n_2.toNat - 0) (List.drop 0 l_1)), []))))))) :=
 rk_of (by kernel_rfl)
theorem f58_at195_1 (m_0 : Nat) (n_1 : Int) (b_2 : Bool) (l_3 : List V) : rk Tryz.prog pol (.at_ 152 1 [true, false, false, false, false, true, true] (sv 23 [(0, .m 0 0 m_0), (3, vi n_1), (15, vb b_2)]) [] [.cells l_3 []]) = interp (rk Tryz.prog pol) (brB b_2 (.call (.at_ 152 1 [false, false, true, true] (sv 23 [(0, .m 0 0 m_0), (3, vi (IntKind.i64.wrap (n_1 - 1)))]) [] [.cells l_3 []]) .ret) (ift (decide (0 ≤ n_1 ∧ n_1 ≤ (m_0 : Int))) (ob (o_tail [.cells l_3 []] 1 (.m 0 0 (n_1.toNat - 0))) fun a => ift (headOk 1 a) (ift (decide (0 + a.length ≤ 4294967296)) (.ret (vl a.isEmpty ([] ++ a), [.cells l_3 []])))))) :=
 rk_of (by kernel_rfl)
theorem f29_at10827 (b_0 : Bool) (l_1 : List D) (b_2 : Bool) (l_3 : List D) (m_4 : Nat) (n_5 n_6 n_7 : Int) (l_8 : List V) : rk Tryz.prog pol (.at_ 105 0 [false, true, false, true, false, false, true, false, false, true, false, true, true] (sv 68 [(0, vl b_0 l_1), (1, vl b_2 l_3), (5, .m 0 0 m_4), (6, vi n_5), (7, vu n_6), (8, vi n_7)]) [] [.cells l_8 []]) = interp (rk Tryz.prog pol) (brB (decide (n_7 < (l_3.length : Int))) (ift (decide (0 ≤ IntKind.i64.wrap (n_5 + n_7) ∧ IntKind.i64.wrap (n_5 + n_7) < (m_4 : Int))) (ob l_8[0 + (IntKind.i64.wrap (n_5 + n_7)).toNat]? fun a => asD a fun b => asI .u32 b fun c => ob (getI l_1 n_5) fun e => ift (e.width == 1) (ob l_1[n_5.toNat]? fun f => ob f.cells[0]? fun g => asI .u32 g fun h => ob (getI l_3 n_7) fun j => ift (j.width == 1) (ob l_3[n_7.toNat]? fun k => ob k.cells[0]? fun n => asI .u32 n fun o => ift (decide (0 ≤ IntKind.i64.wrap (n_5 + n_7) ∧ IntKind.i64.wrap (n_5 + n_7) < (m_4 : Int))) (ift (decide (0 + (IntKind.i64.wrap (n_5 + n_7)).toNat < l_8.length) && true) (.call (.at_ 105 0 [false, true, false, true, false, false, true, false, false, true, false, true, true] (sv 68 [(0, vl b_0 l_1), (1, vl b_2 l_3), (5, .m 0 0 m_4), (6, vi n_5), (7, vu ((IntKind.u64.wrap (IntKind.u64.wrap (n_6 + IntKind.u64.wrap c) + IntKind.u64.wrap (IntKind.u64.wrap h * IntKind.u64.wrap o))).fdiv 4294967296)), (8, vi (IntKind.i64.wrap (n_7 + 1)))]) [] [.cells (l_8.set (0 + (IntKind.i64.wrap (n_5 + n_7)).toNat) (.d (.i .u32 (IntKind.u32.wrap (IntKind.u64.wrap (IntKind.u64.wrap (n_6 + IntKind.u64.wrap c) + IntKind.u64.wrap (IntKind.u64.wrap h * IntKind.u64.wrap o))))))) []]) .ret)))))) (ift (decide (0 ≤ IntKind.i64.wrap (n_5 + (l_3.length : Int)) ∧ IntKind.i64.wrap (n_5 + (l_3.length : Int)) < (m_4 : Int))) (ift (decide (0 + (IntKind.i64.wrap (n_5 + (l_3.length : Int))).toNat < l_8.length) && true) (.call (.at_ 105 0 [false, true, false, true, true] (sv 68 [(0, vl b_0 l_1), (1, vl b_2 l_3), (5, .m 0 0 m_4), (6, vi (IntKind.i64.wrap (n_5 + 1)))]) [] [.cells (l_8.set (0 + (IntKind.i64.wrap (n_5 + (l_3.length : Int))).toNat) (.d (.i .u32 (IntKind.u32.wrap n_6)))) []]) .ret)))) :=
 rk_of (by kernel_rfl)
theorem f28_at791 (b_0 : Bool) (l_1 : List D) (b_2 : Bool) (l_3 : List D) (b_4 : Bool) (l_5 : List D) (n_6 n_7 : Int) (b_8 : Bool) : rk Tryz.prog pol (.at_ 109 0 [true, false, false, false, true, false, true, true, true] (sv 42 [(0, vl b_0 l_1), (1, vl b_2 l_3), (5, vl b_4 l_5), (6, vu n_6), (7, vi n_7), (21, vb b_8)]) [(5, 1)] []) = interp (rk Tryz.prog pol) (brB b_8 (cV (.call 155 [vl b_0 l_1, vi n_7] []) fun o_0 => asD o_0 fun d_1 => asI .u64 d_1 fun n_2 => cV (.call 155 [vl b_2 l_3, vi n_7] []) fun o_3 => asD o_3 fun d_4 => asI .u64 d_4 fun n_5 => ift (headOk 1 l_5) (ift (b_4 || true) (ift (decide (l_5.length + 1 ≤ 4294967296)) (.call (.at_ 109 0 [false, true, false, true, true, true] (sv 42 [(0, vl b_0 l_1), (1, vl b_2 l_3), (5, vl (b_4 && false) (l_5 ++ [.i .u32 (IntKind.u32.wrap (IntKind.u64.wrap (IntKind.u64.wrap (n_6 + n_2) + n_5)))])), (6, vu ((IntKind.u64.wrap (IntKind.u64.wrap (n_6 + n_2) + n_5)).fdiv 4294967296)), (7, vi (IntKind.i64.wrap (n_7 + 1)))]) [(5, 1)] []) .ret)))) (cV (.call 152 [vl b_4 l_5] []) fun o_6 => asD o_6 fun d_7 => asL d_7 fun b_8 l_9 => .ret (vl b_8 l_9, []))) :=
 rk_of (by kernel_rfl)
theorem f41_at391 (b_0 : Bool) (l_1 : List D) (n_2 : Int) (b_3 : Bool) : rk Tryz.prog pol (.at_ 103 0 [true, false, false, false, false, true, true, true] (sv 22 [(3, vl b_0 l_1), (4, vi n_2), (18, vb b_3)]) [] []) = interp (rk Tryz.prog pol) (brB b_3 (.call (.at_ 103 0 [false, false, true, true, true] (sv 22 [(3, vl b_0 l_1), (4, vi (IntKind.i64.wrap (n_2 - 1)))]) [] []) .ret) (.ret (vi n_2, []))) :=
 rk_of (by kernel_rfl)
theorem f40_at1611 (b_0 : Bool) (l_1 : List D) (n_2 : Int) (m_3 : Nat) (n_4 : Int) (b_5 : Bool) (l_6 : List V) : rk Tryz.prog pol (.at_ 102 0 [true, false, false, true, false, false, true, false, true, true] (sv 53 [(0, vl b_0 l_1), (1, vi n_2), (5, .m 0 0 m_3), (6, vi n_4), (31, vb b_5)]) [] [.cells l_6 []]) = interp (rk Tryz.prog pol) (brB b_5 (ift (decide (0 ≤ IntKind.i64.wrap ((IntKind.i64.wrap (n_4 + n_2)).tdiv 32) ∧ IntKind.i64.wrap ((IntKind.i64.wrap (n_4 + n_2)).tdiv 32) < (m_3 : Int))) (ob l_6[0 + (IntKind.i64.wrap ((IntKind.i64.wrap (n_4 + n_2)).tdiv 32)).toNat]? fun a => asD a fun c => asI .u32 c fun e => ift (decide (0 ≤ (IntKind.i64.wrap (n_4 + n_2)).tmod 32)) (ift (decide (0 ≤ IntKind.i64.wrap ((IntKind.i64.wrap (n_4 + n_2)).tdiv 32) ∧ IntKind.i64.wrap ((IntKind.i64.wrap (n_4 + n_2)).tdiv 32) < (m_3 : Int))) (ift (decide (0 + (IntKind.i64.wrap ((IntKind.i64.wrap (n_4 + n_2)).tdiv 32)).toNat < l_6.length) && true) (.call (.at_ 102 0 [false, true, false, true, true] (sv 53 [(0, vl b_0 l_1), (1, vi n_2), (5, .m 0 0 m_3), (6, vi (IntKind.i64.wrap (n_4 + 1)))]) [] [.cells (l_6.set (0 + (IntKind.i64.wrap ((IntKind.i64.wrap (n_4 + n_2)).tdiv 32)).toNat) (.d (.i .u32 (IntKind.u32.wrap ((BitVec.ofInt IntKind.u32.bits e ||| BitVec.ofInt IntKind.u32.bits (IntKind.u32.wrap (1 * 2 ^ min ((IntKind.i64.wrap (n_4 + n_2)).tmod 32).toNat 32))).toNat : Int))))) []]) .ret))))) (.call (.at_ 102 0 [false, true, false, true, true] (sv 53 [(0, vl b_0 l_1), (1, vi n_2), (5, .m 0 0 m_3), (6, vi (IntKind.i64.wrap (n_4 + 1)))]) [] [.cells l_6 []]) .ret)) :=
 rk_of (by kernel_rfl)
theorem f43_at1839 (b_0 : Bool) (l_1 : List D) (b_2 : Bool) (l_3 : List D) (m_4 : Nat) (b_5 : Bool) (l_6 : List D) (n_7 : Int) (l_8 : List V) : rk Tryz.prog pol (.at_ 107 0 [true, true, false, false, true, false, true, true, true, true] (sv 60 [(0, vl b_0 l_1), (1, vl b_2 l_3), (7, .m 0 0 m_4), (8, vl b_5 l_6), (9, vi n_7)]) [] [.cells l_8 []]) = interp (rk Tryz.prog pol) (.call (.at_ 107 0 [false, true, false, true, true, true, true] (sv 60 [(0, vl b_0 l_1), (1, vl b_2 l_3), (7, .m 0 0 m_4), (8, vl b_5 l_6), (9, vi (IntKind.i64.wrap (n_7 - 1)))]) [] [.cells l_8 []]) .ret) :=
 rk_of (by kernel_rfl)
theorem f16_at447 (l_0 : List UInt8) (n_1 n_2 : Int) (b_3 : Bool) : rk Tryz.prog pol (.at_ 48 0 [true, false, true, true, true, true, true, true] (sv 147 [(3, vs l_0), (4, vi n_1), (5, vu n_2), (33, vb b_3)]) [] []) = interp (rk Tryz.prog pol) (brB b_3 (ift (decide (l_0.length + 5 < 4611686018427387904)) (.ret (vs (l_0 ++ [48, 46, 48, 101, 48]), []))) (brB (n_1 == 0) (.call (.at_ 48 0 [true, true, true, true, true, true, true, true] (sv 147 [(3, vs l_0), (4, vi 1), (5, vu n_2)]) [] []) .ret) (.call (.at_ 48 0 [true, true, true, true, true, true, true, true] (sv 147 [(3, vs l_0), (4, vi n_1), (5, vu (IntKind.u64.wrap ((BitVec.ofInt IntKind.u64.bits n_2 ||| BitVec.ofInt IntKind.u64.bits 4503599627370496).toNat : Int)))]) [] []) .ret))) :=
 rk_of (by kernel_rfl)
theorem f43_at175_1 (b_0 : Bool) (l_1 : List D) (b_2 : Bool) (l_3 : List D) (m_4 : Nat) (b_5 : Bool) (l_6 : List D) (n_7 : Int) (l_8 : List V) : rk Tryz.prog pol (.at_ 107 0 [false, true, false, true, true, true, true] (sv 60 [(0, vl b_0 l_1), (1, vl b_2 l_3), (7, .m 0 0 m_4), (8, vl b_5 l_6), (9, vi n_7)]) [] [.cells l_8 []]) = interp (rk Tryz.prog pol) (brB (decide (n_7 ≥ 0)) (cV (.call 109 [vl b_5 l_6, vl b_5 l_6] []) fun a => asD a fun c => asL c fun e f => cV (.call 153 [vl b_0 l_1, vi n_7] []) fun g => asD g fun h => asI .u64 h fun j => cV (.call 101 [vu j] []) fun k => asD k fun n => asL n fun o p => cV (.call 109 [vl e f, vl o p] []) fun q => asD q fun r => asL r fun s zu => cV (.call 154 [vl s zu, vl b_2 l_3] []) fun v => unT v fun w => ift (w.length == 2) (asD (w.getD 0 (vb false)) fun x => asL x fun y z => asD (w.getD 1 (vb false)) fun a0 => asB a0 fun a1 => brB a1 (ift (decide (0 ≤ IntKind.i64.wrap (n_7.tdiv 32) ∧ IntKind.i64.wrap (n_7.tdiv 32) < (m_4 : Int))) (ob l_8[0 + (IntKind.i64.wrap (n_7.tdiv 32)).toNat]? fun a2 => asD a2 fun a3 => asI .u32 a3 fun a4 => ift (decide (0 ≤ n_7.tmod 32)) (ift (decide (0 ≤ IntKind.i64.wrap (n_7.tdiv 32) ∧ IntKind.i64.wrap (n_7.tdiv 32) < (m_4 : Int))) (ift (decide (0 + (IntKind.i64.wrap (n_7.tdiv 32)).toNat < l_8.length) && true) (.call (.at_ 107 0 [true, true, false, false, true, false, true, true, true, true] (sv 60 [(0, vl b_0 l_1), (1, vl b_2 l_3), (7, .m 0 0 m_4), (8, vl y z), (9, vi n_7)]) [] [.cells (l_8.set (0 + (IntKind.i64.wrap (n_7.tdiv 32)).toNat) (.d (.i .u32 (IntKind.u32.wrap ((BitVec.ofInt IntKind.u32.bits a4 ||| BitVec.ofInt IntKind.u32.bits (IntKind.u32.wrap (1 * 2 ^ min (n_7.tmod 32).toNat 32))).toNat : Int))))) []]) .ret))))) (.call (.at_ 107 0 [true, true, false, false, true, false, true, true, true, true] (sv 60 [(0, vl b_0 l_1), (1, vl b_2 l_3), (7, .m 0 0 m_4), (8, vl s zu), (9, vi n_7)]) [] [.cells l_8 []]) .ret))) (c1 (.call 152 [.m 0 0 m_4] [.cells l_8 []]) l_8.length [] fun a5 a6 => asD a5 fun a7 => asL a7 fun a8 a9 => .ret (.t [vl a8 a9, vl b_5 l_6, vb true], []))) :=
 rk_of (by kernel_rfl)
theorem f16_at511 (l_0 : List UInt8) (n_1 n_2 : Int) : rk Tryz.prog pol (.at_ 48 0 [true, true, true, true, true, true, true, true] (sv 147 [(3, vs l_0), (4, vi n_1), (5, vu n_2)]) [] []) = interp (rk Tryz.prog pol) (cV (.call 101 [vu n_2] []) fun a => asD a fun b => asL b fun c e => brB (decide (n_1 ≥ 1075)) (cV (.call 102 [vl c e, vi (IntKind.i64.wrap (n_1 - 1075))] []) fun f => asD f fun g => asL g fun h j => .call (.at_ 48 0 [true, true, true, true, true, true, true, true, true, true] (sv 147 [(3, vs l_0), (6, vl h j), (7, vl true [.i .u32 1])]) [] []) .ret) (cV (.call 102 [vl true [.i .u32 1], vi (IntKind.i64.wrap (1075 - n_1))] []) fun k => asD k fun m => asL m fun n o => .call (.at_ 48 0 [true, true, true, true, true, true, true, true, true, true] (sv 147 [(3, vs l_0), (6, vl c e), (7, vl n o)]) [] []) .ret)) :=
 rk_of (by kernel_rfl)
theorem f16_at2047 (l_0 : List UInt8) (b_1 : Bool) (l_2 : List D) (b_3 : Bool) (l_4 : List D) : rk Tryz.prog pol (.at_ 48 0 [true, true, true, true, true, true, true, true, true, true] (sv 147 [(3, vs l_0), (6, vl b_1 l_2), (7, vl b_3 l_4)]) [] []) = interp (rk Tryz.prog pol) (cV (.call 103 [vl b_1 l_2] []) fun a => asD a fun b => asI .i64 b fun c => cV (.call 103 [vl b_3 l_4] []) fun e => asD e fun f => asI .i64 f fun g => .call (.at_ 48 0 [false, false, true, true, true, true, true, true, true, true, true, true, true] (sv 147 [(3, vs l_0), (6, vl b_1 l_2), (7, vl b_3 l_4), (8, vi (IntKind.i64.wrap (IntKind.i64.wrap ((IntKind.i64.wrap (IntKind.i64.wrap (c - g) * 30103)).tdiv 100000) - 2)))]) [] []) .ret) :=
 rk_of (by kernel_rfl)
theorem f16_at10239 (l_0 : List UInt8) (b_1 : Bool) (l_2 : List D) (b_3 : Bool) (l_4 : List D) (n_5 : Int) : rk Tryz.prog pol (.at_ 48 0 [false, false, true, true, true, true, true, true, true, true, true, true, true] (sv 147 [(3, vs l_0), (6, vl b_1 l_2), (7, vl b_3 l_4), (8, vi n_5)]) [] []) = interp (rk Tryz.prog pol) (cV (.call 104 [vl b_1 l_2, vl b_3 l_4, vi (IntKind.i64.wrap (n_5 + 1))] []) fun a => asD a fun b => asB b fun c => brB c (.call (.at_ 48 0 [false, false, true, true, true, true, true, true, true, true, true, true, true] (sv 147 [(3, vs l_0), (6, vl b_1 l_2), (7, vl b_3 l_4), (8, vi (IntKind.i64.wrap (n_5 + 1)))]) [] []) .ret) (brB (decide (IntKind.i64.wrap (16 - n_5) ≥ 0)) (cV (.call 106 [vi (IntKind.i64.wrap (16 - n_5))] []) fun e => asD e fun f => asL f fun g h => cV (.call 105 [vl b_1 l_2, vl g h] []) fun j => asD j fun k => asL k fun m n => .call (.at_ 48 0 [true, true, true, true, true, true, true, true, true, true, true, true, true, true] (sv 147 [(3, vs l_0), (6, vl m n), (7, vl b_3 l_4), (8, vi n_5)]) [] []) .ret) (cV (.call 106 [vi (IntKind.i64.wrap (0 - IntKind.i64.wrap (16 - n_5)))] []) fun o => asD o fun p => asL p fun q r => cV (.call 105 [vl b_3 l_4, vl q r] []) fun t => asD t fun zu => asL zu fun v w => .call (.at_ 48 0 [true, true, true, true, true, true, true, true, true, true, true, true, true, true] (sv 147 [(3, vs l_0), (6, vl b_1 l_2), (7, vl v w), (8, vi n_5)]) [] []) .ret))) :=
 rk_of (by kernel_rfl)
theorem f16_at32767 (l_0 : List UInt8) (b_1 : Bool) (l_2 : List D) (b_3 : Bool) (l_4 : List D) (n_5 : Int) : rk Tryz.prog pol (.at_ 48 0 [true, true, true, true, true, true, true, true, true, true, true, true, true, true] (sv 147 [(3, vs l_0), (6, vl b_1 l_2), (7, vl b_3 l_4), (8, vi n_5)]) [] []) = interp (rk Tryz.prog pol) (cV (.call 107 [vl b_1 l_2, vl b_3 l_4] []) fun a => unT a fun c => ift (c.length == 3) (asD (c.getD 0 (vb false)) fun e => asL e fun f g => asD (c.getD 1 (vb false)) fun h => asL h fun j k => asD (c.getD 2 (vb false)) fun m => asB m fun n => cV (.call 109 [vl j k, vl j k] []) fun o => asD o fun p => asL p fun q r => cV (.call 108 [vl q r, vl b_3 l_4] []) fun t => asD t fun zu => asI .i64 zu fun v => brB (decide (v > 0)) (.call (.at_ 48 0 [true, false, true, true, true, true, true, true, true, true, true, true, true, true, true, true, true, true] (sv 147 [(3, vs l_0), (8, vi n_5), (10, vl f g), (104, vb true)]) [] []) .ret) (brB (v == 0) (cV (.call 110 [vl f g] []) fun w => asD w fun x => asI .u64 x fun y => .call (.at_ 48 0 [true, false, true, true, true, true, true, true, true, true, true, true, true, true, true, true, true, true] (sv 147 [(3, vs l_0), (8, vi n_5), (10, vl f g), (104, vb (y.tmod 2 == 1))]) [] []) .ret) (.call (.at_ 48 0 [true, false, true, true, true, true, true, true, true, true, true, true, true, true, true, true, true, true] (sv 147 [(3, vs l_0), (8, vi n_5), (10, vl f g), (104, vb false)]) [] []) .ret)))) :=
 rk_of (by kernel_rfl)
theorem f16_at458751 (l_0 : List UInt8) (n_1 : Int) (b_2 : Bool) (l_3 : List D) (b_4 : Bool) : rk Tryz.prog pol (.at_ 48 0 [true, false, true, true, true, true, true, true, true, true, true, true, true, true, true, true, true, true] (sv 147 [(3, vs l_0), (8, vi n_1), (10, vl b_2 l_3), (104, vb b_4)]) [] []) = interp (rk Tryz.prog pol) (brB b_4 (cV (.call 101 [vu 1] []) fun a => asD a fun c => asL c fun e f => cV (.call 109 [vl b_2 l_3, vl e f] []) fun g => asD g fun h => asL h fun j k => cV (.call 110 [vl j k] []) fun m => asD m fun n => asI .u64 n fun o => brB (o == 100000000000000000) (.call (.at_ 48 0 [true, true, true, true, true, true, true, true, true, true, true, true, true, true, true, true, true, true, true] (sv 147 [(3, vs l_0), (8, vi (IntKind.i64.wrap (n_1 + 1))), (14, vu (IntKind.u64.wrap (o.tdiv 10)))]) [] []) .ret) (.call (.at_ 48 0 [true, true, true, true, true, true, true, true, true, true, true, true, true, true, true, true, true, true, true] (sv 147 [(3, vs l_0), (8, vi n_1), (14, vu o)]) [] []) .ret)) (cV (.call 110 [vl b_2 l_3] []) fun p => asD p fun q => asI .u64 q fun r => brB (r == 100000000000000000) (.call (.at_ 48 0 [true, true, true, true, true, true, true, true, true, true, true, true, true, true, true, true, true, true, true] (sv 147 [(3, vs l_0), (8, vi (IntKind.i64.wrap (n_1 + 1))), (14, vu (IntKind.u64.wrap (r.tdiv 10)))]) [] []) .ret) (.call (.at_ 48 0 [true, true, true, true, true, true, true, true, true, true, true, true, true, true, true, true, true, true, true] (sv 147 [(3, vs l_0), (8, vi n_1), (14, vu r)]) [] []) .ret))) :=
 rk_of (by kernel_rfl)
theorem f16_at1048575 (l_0 : List UInt8) (n_1 n_2 : Int) : rk Tryz.prog pol (.at_ 48 0 [true, true, true, true, true, true, true, true, true, true, true, true, true, true, true, true, true, true, true] (sv 147 [(3, vs l_0), (8, vi n_1), (14, vu n_2)]) [] []) = interp (rk Tryz.prog pol) (cV (.call 100 [vu n_2] []) fun a => asD a fun b => asS b fun c => ift (decide ((0 : Int) ≤ 1 ∧ 1 ≤ (c.length : Int))) (.call (.at_ 48 0 [false, false, true, true, true, true, true, true, true, true, true, true, true, true, true, true, true, true, true, true, true, true, true] (sv 147 [(3, vs l_0), (8, vi n_1), (15, vs c), (16, vs (List.take (c.length - 1) (List.drop 1 c)))]) [] []) .ret)) :=
 rk_of (by kernel_rfl)
theorem f16_at10485759 (l_0 : List UInt8) (n_1 : Int) (l_2 l_3 : List UInt8) : rk Tryz.prog pol (.at_ 48 0 [false, false, true, true, true, true, true, true, true, true, true, true, true, true, true, true, true, true, true, true, true, true, true] (sv 147 [(3, vs l_0), (8, vi n_1), (15, vs l_2), (16, vs l_3)]) [] []) = interp (rk Tryz.prog pol) (brB (decide ((l_3.length : Int) > 1)) (ob (getI l_3 (IntKind.i64.wrap ((l_3.length : Int) - 1))) fun a => .call (.at_ 48 0 [true, false, false, false, false, true, true, true, true, true, true, true, true, true, true, true, true, true, true, true, true, true, true, true, true, true] (sv 147 [(3, vs l_0), (8, vi n_1), (15, vs l_2), (16, vs l_3), (130, vb ((a.toNat : Int) == 48))]) [] []) .ret) (.call (.at_ 48 0 [true, false, false, false, false, true, true, true, true, true, true, true, true, true, true, true, true, true, true, true, true, true, true, true, true, true] (sv 147 [(3, vs l_0), (8, vi n_1), (15, vs l_2), (16, vs l_3), (130, vb false)]) [] []) .ret)) :=
 rk_of (by kernel_rfl)
theorem f16_at102760447 (l_0 : List UInt8) (n_1 : Int) (l_2 l_3 : List UInt8) (b_4 : Bool) : rk Tryz.prog pol (.at_ 48 0 [true, false, false, false, false, true, true, true, true, true, true, true, true, true, true, true, true, true, true, true, true, true, true, true, true, true] (sv 147 [(3, vs l_0), (8, vi n_1), (15, vs l_2), (16, vs l_3), (130, vb b_4)]) [] []) = interp (rk Tryz.prog pol) (brB b_4 (ift (decide (0 ≤ IntKind.i64.wrap ((l_3.length : Int) - 1) ∧ IntKind.i64.wrap ((l_3.length : Int) - 1) ≤ (l_3.length : Int))) (.call (.at_ 48 0 [false, false, true, true, true, true, true, true, true, true, true, true, true, true, true, true, true, true, true, true, true, true, true] (sv 147 [(3, vs l_0), (8, vi n_1), (15, vs l_2), (16, vs (List.take ((IntKind.i64.wrap ((l_3.length : Int) - 1)).toNat - 0) (List.drop 0 l_3)))]) [] []) .ret)) (ift (decide ((0 : Int) ≤ 1 ∧ 1 ≤ (l_2.length : Int))) (ift (decide (l_0.length + (List.take 1 (List.drop 0 l_2)).length < 4611686018427387904)) (ift (decide ((l_0 ++ List.take 1 (List.drop 0 l_2)).length + 1 < 4611686018427387904)) (ift (decide ((l_0 ++ List.take 1 (List.drop 0 l_2) ++ [46]).length + l_3.length < 4611686018427387904)) (ift (decide ((l_0 ++ List.take 1 (List.drop 0 l_2) ++ [46] ++ l_3).length + 1 < 4611686018427387904)) (cV (.call 47 [vi n_1] []) fun a => asD a fun c => asS c fun e => ift (decide ((l_0 ++ List.take 1 (List.drop 0 l_2) ++ [46] ++ l_3 ++ [101]).length + e.length < 4611686018427387904)) (.ret (vs (l_0 ++ List.take 1 (List.drop 0 l_2) ++ [46] ++ l_3 ++ [101] ++ e), []))))))))) :=
 rk_of (by kernel_rfl)
end Go.Dn.Dec
namespace Go.Dn.Dec
open Go.Proofs
theorem cells0_i (k : IntKind) (n : Int) : (D.i k n).cells[0]? = some (D.i k n) := rfl
theorem width1_i (k : IntKind) (n : Int) : ((D.i k n).width == 1) = true := rfl
theorem norm_loop (b : Bool) (a : List Int) (ha : U32 a) (hb : a.length ≤ 1000000) : ∀ n : Nat, n ≤ a.length → valL (a.take n) = valL a →
  rk Tryz.prog pol (Task.at_ 152 0 [false, false, true, true] (sv 23 [(0, V.d (D.l b (ints .u32 a))), (3, V.d (D.i .i64 (n : Int)))]) [] []) = some (.d (nl (valL a)), [])
 | 0, hn, hv => by
  have h0 : valL a = 0 := by rw [← hv]; rfl
  have e : nl (valL a) = .l true [] := by rw [h0]; exact nl_of limbs_zero
  rw [f58_at19, st_f (by decide), interp_call_ret, f58_at195, st_F, st_if (by simp), head_ints, st_ift]
  have e2 : List.take (((0 : Nat) : Int).toNat - 0) (List.drop 0 (ints .u32 a)) = [] := rfl
  rw [e2, headOk_nil, st_ift, st_if (by decide), interp_ret, e]
  rfl
 | n + 1, hn, hv => by
  have hx : n < a.length := by omega
  have gx := List.getElem?_eq_getElem hx
  have hw : IntKind.i64.wrap (((n + 1 : Nat) : Int) - 1) = (n : Int) := by rw [wrap_i64] <;> omega
  have hg : (ints .u32 a)[n]? = some (D.i .u32 a[n]) := by rw [get_ints, gx]; rfl
  rw [f58_at19, st_t (by omega), hw, getI_nat, Int.toNat_natCast, st_ob hg, width1_i, st_ift, st_ob hg, st_ob (cells0_i _ _), st_asI, interp_call_ret, f58_at195]
  by_cases h0 : a[n] = 0
  ·have ih := norm_loop b a ha hb n (by omega) (by rw [← hv]; exact (val_take_zero a n (by rw [gx, h0])).symm)
   rw [h0, st_bt (by rfl), hw, interp_call_ret, ih]
  ·have e : nl (valL a) = .l (a.take (n + 1)).isEmpty (ints .u32 (a.take (n + 1))) := by rw [← hv]; exact nl_of (limbs_take ha hx h0)
   have e2 : List.take ((((n + 1 : Nat) : Int)).toNat - 0) (List.drop 0 (ints .u32 a)) = ints .u32 (a.take (n + 1)) := by rw [List.drop_zero, take_ints]; rfl
   rw [st_bf (beq_eq_false_iff_ne.2 h0), st_if (by rw [len_ints]; omega), head_ints, st_ift, e2, head_ints, st_ift, st_if (by rw [len_ints, List.length_take]; omega), interp_ret, e, isEmpty_ints, List.nil_append]
theorem norm_run (b : Bool) (a : List Int) (ha : U32 a) (hb : a.length ≤ 1000000) : rk Tryz.prog pol (Task.call 152 [V.d (D.l b (ints .u32 a))] []) = some (.d (nl (valL a)), []) := by
 rw [f58, interp_call_ret, len_ints]
 exact norm_loop b a ha hb a.length (Nat.le_refl _) (by rw [List.take_length])
theorem normm_loop (a : List Int) (ha : U32 a) (hb : a.length ≤ 1000000) : ∀ n : Nat, n ≤ a.length → valL (a.take n) = valL a →
  rk Tryz.prog pol (Task.at_ 152 1 [false, false, true, true] (sv 23 [(0, V.m 0 0 a.length), (3, V.d (D.i .i64 (n : Int)))]) [] [Ob.cells (cellsOf a) []]) = some (.d (nl (valL a)), [Ob.cells (cellsOf a) []])
 | 0, hn, hv => by
  have h0 : valL a = 0 := by rw [← hv]; rfl
  have e : nl (valL a) = .l true [] := by rw [h0]; exact nl_of limbs_zero
  have hv0 : o_tail [Ob.cells (cellsOf a) []] 1 (V.m 0 0 (((0 : Nat) : Int).toNat - 0)) = some (ints .u32 (a.take 0)) := view_cells a 0 (by omega)
  rw [f58_at19_1, st_f (by decide), interp_call_ret, f58_at195_1, st_F, st_if (by simp), st_ob hv0, head_ints, st_ift, st_if (by simp), interp_ret, e]
  rfl
 | n + 1, hn, hv => by
  have hx : n < a.length := by omega
  have gx := List.getElem?_eq_getElem hx
  have hw : IntKind.i64.wrap (((n + 1 : Nat) : Int) - 1) = (n : Int) := by rw [wrap_i64] <;> omega
  have hg : (cellsOf a)[0 + n]? = some (V.d (D.i .u32 a[n])) := by rw [Nat.zero_add, cellsOf_get, gx]; rfl
  have hni : (0 : Int) ≤ (n : Int) ∧ (n : Int) < (a.length : Int) := by omega
  rw [f58_at19_1, st_t (by omega), hw, st_if hni, Int.toNat_natCast, st_ob hg, asD_d, st_asI, interp_call_ret, f58_at195_1]
  by_cases h0 : a[n] = 0
  ·have ih := normm_loop a ha hb n (by omega) (by rw [← hv]; exact (val_take_zero a n (by rw [gx, h0])).symm)
   rw [h0, st_bt (by rfl), hw, interp_call_ret, ih]
  ·have e : nl (valL a) = .l (a.take (n + 1)).isEmpty (ints .u32 (a.take (n + 1))) := by rw [← hv]; exact nl_of (limbs_take ha hx h0)
   have hv1 : o_tail [Ob.cells (cellsOf a) []] 1 (V.m 0 0 ((((n + 1 : Nat) : Int)).toNat - 0)) = some (ints .u32 (a.take (n + 1))) := view_cells a (n + 1) (by omega)
   rw [st_bf (beq_eq_false_iff_ne.2 h0), st_if (by omega), st_ob hv1, head_ints, st_ift, st_if (by rw [len_ints, List.length_take]; omega), interp_ret, e, isEmpty_ints, List.nil_append]
theorem normm_run (a : List Int) (ha : U32 a) (hb : a.length ≤ 1000000) : rk Tryz.prog pol (Task.call 152 [V.m 0 0 a.length] [Ob.cells (cellsOf a) []]) = some (.d (nl (valL a)), [Ob.cells (cellsOf a) []]) := by
 rw [f58m, interp_call_ret]
 exact normm_loop a ha hb a.length (Nat.le_refl _) (by rw [List.take_length])
theorem rnorm_ws (b : Bool) (x : Nat) (hx : Fits x) : rk Tryz.prog pol (Task.call 152 [V.d (D.l b (ws x))] []) = some (.d (.l (nb x) (ws x)), []) := by
 have := norm_run b (limbs x) (limbs_u32 x) (by have := hx.len; omega)
 rw [val_limbs] at this
 exact this
theorem rof_ws (n : Nat) (h : n < 18446744073709551616) : rk Tryz.prog pol (Task.call 101 [V.d (D.i .u64 (n : Int))] []) = some (.d (.l (nb n) (ws n)), []) := by
 rw [f30]
 have e : [D.i IntKind.u32 (IntKind.u32.wrap n), D.i IntKind.u32 (IntKind.u32.wrap ((n : Int).fdiv 4294967296))] = ints .u32 [((n % W : Nat) : Int), ((n / W : Nat) : Int)] := by
  rw [u32_wrap, u32_wrap, fdiv_W, mod_W, mod_32 (by unfold W; omega)]; rfl
 have hv : valL [((n % W : Nat) : Int), ((n / W : Nat) : Int)] = n := by
  simp only [valL, Int.toNat_natCast]
  have := Nat.mod_add_div n W; omega
 have hu : U32 [((n % W : Nat) : Int), ((n / W : Nat) : Int)] := by
  intro z hz
  have h1 := Nat.mod_lt n W_pos
  have h2 : n / W < 4294967296 := by unfold W; omega
  unfold W at *
  simp at hz
  rcases hz with rfl | rfl <;> omega
 have hc := norm_run true _ hu (by simp)
 rw [hv, nl_ws] at hc
 rw [e, st_L hc, interp_ret]
def dg (x i : Nat) : Nat := x / W ^ i % W
theorem dg_lt (x i : Nat) : dg x i < 4294967296 := Nat.mod_lt _ W_pos
theorem dg_beyond {x i : Nat} (h : (limbs x).length ≤ i) : x / W ^ i = 0 := by
 refine Nat.div_eq_of_lt (Nat.lt_of_lt_of_le (limbs_lt_len x) (Nat.pow_le_pow_right W_pos h))
theorem ws_get {x i : Nat} (h : i < (limbs x).length) : (ws x)[i]? = some (D.i .u32 ((dg x i : Nat) : Int)) := by
 rw [ws, get_ints, limbs_get x i h]; rfl
theorem rat_ws (b : Bool) (x i : Nat) : rk Tryz.prog pol (Task.call 155 [V.d (D.l b (ws x)), V.d (D.i .i64 (i : Int))] []) = some (.d (.i .u64 ((dg x i : Nat) : Int)), []) := by
 rw [f57, ws_len]
 by_cases h : i < (limbs x).length
 ·have hl := dg_lt x i
  have hw : IntKind.u64.wrap ((dg x i : Nat) : Int) = ((dg x i : Nat) : Int) := by rw [u64_wrap]; omega
  rw [st_t (by omega), getI_nat, st_ob (ws_get h), width1_i, st_ift, Int.toNat_natCast, st_ob (ws_get h), st_ob (cells0_i _ _), st_asI, interp_ret, hw]
 ·rw [st_f (by omega), interp_ret]
  have : dg x i = 0 := by unfold dg; rw [dg_beyond (by omega)]; exact Nat.zero_mod _
  rw [this]; rfl
theorem rbit_ws (b : Bool) (x i : Nat) (hi : i < 1000000000) : rk Tryz.prog pol (Task.call 153 [V.d (D.l b (ws x)), V.d (D.i .i64 (i : Int))] []) = some (.d (.i .u64 ((x / 2 ^ i % 2 : Nat) : Int)), []) := by
 rw [f59]
 have e1 : (i : Int).tdiv 32 = ((i / 32 : Nat) : Int) := tdiv_nat i 32
 have e2 : (i : Int).tmod 32 = ((i % 32 : Nat) : Int) := tmod_nat i 32
 have hw : IntKind.i64.wrap ((i / 32 : Nat) : Int) = ((i / 32 : Nat) : Int) := by rw [wrap_i64] <;> omega
 have hm : min (((i % 32 : Nat) : Int)).toNat 64 = i % 32 := by rw [Int.toNat_natCast]; omega
 have hd := dg_lt x (i / 32)
 have hf : ((dg x (i / 32) : Nat) : Int).fdiv (2 ^ (i % 32)) = ((dg x (i / 32) / 2 ^ (i % 32) : Nat) : Int) := by
  have := fdiv_nat (dg x (i / 32)) (2 ^ (i % 32))
  rwa [Int.natCast_pow] at this
 have hle : dg x (i / 32) / 2 ^ (i % 32) < 18446744073709551616 := Nat.lt_of_le_of_lt (Nat.div_le_self _ _) (by omega)
 have ha : (BitVec.ofInt IntKind.u64.bits ((dg x (i / 32) / 2 ^ (i % 32) : Nat) : Int) &&& BitVec.ofInt IntKind.u64.bits 1).toNat = x / 2 ^ i % 2 := by
  show (BitVec.ofInt 64 ((dg x (i / 32) / 2 ^ (i % 32) : Nat) : Int) &&& BitVec.ofInt 64 1).toNat = _
  rw [BitVec.toNat_and, BitVec.ofInt_natCast, BitVec.toNat_ofNat]
  have : (BitVec.ofInt 64 1).toNat = 1 := by decide
  rw [this, Nat.and_one_is_mod, ← bit_word x i]
  unfold dg
  unfold dg at hle
  rw [Nat.mod_eq_of_lt (show _ < 2 ^ 64 from hle)]
 have hw2 : IntKind.u64.wrap ((x / 2 ^ i % 2 : Nat) : Int) = ((x / 2 ^ i % 2 : Nat) : Int) := by rw [u64_wrap]; omega
 rw [e1, hw, st_I (rat_ws b x (i / 32)), e2, hm, hf, ha, hw2, st_if (by omega), interp_ret]
theorem rbits_loop (b : Bool) (x : Nat) : ∀ n : Nat, n < 1000000000 → x < 2 ^ n →
  rk Tryz.prog pol (Task.at_ 103 0 [false, false, true, true, true] (sv 22 [(3, V.d (D.l b (ws x))), (4, V.d (D.i .i64 (n : Int)))]) [] []) = some (.d (.i .i64 (blen x : Nat)), [])
 | 0, hn, hx => by
  have : x = 0 := by simpa using hx
  subst this
  rw [f41_at39, st_f (by decide), interp_call_ret, f41_at391, st_F, interp_ret]; rfl
 | n + 1, hn, hx => by
  have hw : IntKind.i64.wrap (((n + 1 : Nat) : Int) - 1) = (n : Int) := by rw [wrap_i64] <;> omega
  rw [f41_at39, st_t (by omega), hw, st_I (rbit_ws b x n (by omega)), interp_call_ret, f41_at391]
  have hd : x / 2 ^ n < 2 := Nat.div_lt_of_lt_mul (by rw [Nat.mul_comm, Nat.mul_comm, ← Nat.pow_succ]; exact hx)
  by_cases h : x < 2 ^ n
  ·have e : x / 2 ^ n % 2 = 0 := by rw [Nat.div_eq_of_lt h]
   rw [e, st_bt (by rfl), hw, interp_call_ret]
   exact rbits_loop b x n (by omega) h
  ·have e : x / 2 ^ n % 2 = 1 := by
    have : 0 < x / 2 ^ n := Nat.div_pos (by omega) (Nat.pow_pos (by decide))
    omega
   rw [e, st_bf (by rfl), interp_ret, blen_eq (by omega) hx]
theorem rbits_ws (b : Bool) (x : Nat) (hx : Fits x) : rk Tryz.prog pol (Task.call 103 [V.d (D.l b (ws x))] []) = some (.d (.i .i64 (blen x : Nat)), []) := by
 have hl := hx.len
 have hw : IntKind.i64.wrap (32 * ((limbs x).length : Int)) = ((32 * (limbs x).length : Nat) : Int) := by rw [wrap_i64] <;> omega
 rw [f41, st_L (rnorm_ws b x hx), ws_len, hw, interp_call_ret]
 exact rbits_loop (nb x) x (32 * (limbs x).length) (by omega) (by rw [← W_pow']; exact limbs_lt_len x)
theorem dg_split (x i : Nat) : x / W ^ i = W * (x / W ^ (i + 1)) + dg x i := by
 unfold dg
 rw [Nat.pow_succ, ← Nat.div_div_eq_div_mul]
 exact (Nat.div_add_mod _ _).symm
theorem rcmp_loop (b c : Bool) (x y : Nat) : ∀ n : Nat, n < 1000000000 → x / W ^ n = y / W ^ n →
  rk Tryz.prog pol (Task.at_ 108 0 [false, true, false, true] (sv 30 [(0, V.d (D.l b (ws x))), (1, V.d (D.l c (ws y))), (5, V.d (D.i .i64 ((n : Int) - 1)))]) [] []) = some (.d (.i .i64 (cmpN x y)), [])
 | 0, hn, h => by
  have : x = y := by simpa using h
  subst this
  rw [f44_at21, st_f (by decide), interp_ret]
  simp [cmpN]
 | n + 1, hn, h => by
  have e0 : ((n + 1 : Nat) : Int) - 1 = (n : Int) := by omega
  have hw : IntKind.i64.wrap ((n : Int) - 1) = (n : Int) - 1 := by rw [wrap_i64] <;> omega
  have sx := dg_split x n
  rw [h] at sx
  have sy := dg_split y n
  have hlt : ∀ p q : Nat, p / W ^ n < q / W ^ n → p < q := fun p q h => by
   rcases Nat.lt_or_ge p q with h1 | h1
   ·exact h1
   ·exact absurd (Nat.div_le_div_right (c := W ^ n) h1) (by omega)
  rw [e0, f44_at21, st_t (by omega), st_I (rat_ws b x n), st_I (rat_ws c y n)]
  by_cases h1 : dg x n < dg y n
  ·have := hlt x y (by omega)
   rw [st_t (by omega), interp_ret, cmpN, if_pos this]
  ·rw [st_f (by omega), st_I (rat_ws b x n), st_I (rat_ws c y n)]
   by_cases h2 : dg y n < dg x n
   ·have := hlt y x (by omega)
    rw [st_t (by omega), interp_ret, cmpN, if_neg (by omega), if_pos this]
   ·rw [st_f (by omega), hw, interp_call_ret]
    exact rcmp_loop b c x y n (by omega) (by omega)
theorem rcmp_ws (b c : Bool) (x y : Nat) (hx : Fits x) (hy : Fits y) : rk Tryz.prog pol (Task.call 108 [V.d (D.l b (ws x)), V.d (D.l c (ws y))] []) = some (.d (.i .i64 (cmpN x y)), []) := by
 have lx := hx.len
 have ly := hy.len
 have e : IntKind.i64.wrap ((if ((ws y).length : Int) > ((ws x).length : Int) then ((ws y).length : Int) else ((ws x).length : Int)) - 1) = ((max (limbs x).length (limbs y).length : Nat) : Int) - 1 := by
  rw [ws_len, ws_len, wrap_i64]
  ·split <;> omega
  ·split <;> omega
  ·split <;> omega
 rw [f44, e, interp_call_ret]
 exact rcmp_loop b c x y _ (by omega) (by rw [dg_beyond (by omega), dg_beyond (by omega)])
theorem rlow_ws (b : Bool) (x : Nat) : rk Tryz.prog pol (Task.call 110 [V.d (D.l b (ws x))] []) = some (.d (.i .u64 ((x % 18446744073709551616 : Nat) : Int)), []) := by
 have h0 : rk Tryz.prog pol (Task.call 155 [V.d (D.l b (ws x)), V.d (D.i .i64 0)] []) = _ := rat_ws b x 0
 have h1 : rk Tryz.prog pol (Task.call 155 [V.d (D.l b (ws x)), V.d (D.i .i64 1)] []) = _ := rat_ws b x 1
 have d0 := dg_lt x 0
 have d1 := dg_lt x 1
 have e0 : dg x 0 = x % 4294967296 := by unfold dg; rw [Nat.pow_zero, Nat.div_one]; rfl
 have e1 : dg x 1 = x / 4294967296 % 4294967296 := by unfold dg; rw [Nat.pow_one]; rfl
 have hw : IntKind.u64.wrap (((dg x 1 : Nat) : Int) * 4294967296) = ((dg x 1 * 2 ^ 32 : Nat) : Int) := by rw [u64_wrap]; omega
 have hor : (BitVec.ofInt IntKind.u64.bits ((dg x 0 : Nat) : Int) ||| BitVec.ofInt IntKind.u64.bits ((dg x 1 * 2 ^ 32 : Nat) : Int)).toNat = x % 18446744073709551616 := by
  have := or_nat (a := dg x 0) (b := dg x 1 * 2 ^ 32) (by omega) (by omega)
  rw [or_add (by omega)] at this
  refine Eq.trans this ?_
  omega
 have hw2 : IntKind.u64.wrap ((x % 18446744073709551616 : Nat) : Int) = ((x % 18446744073709551616 : Nat) : Int) := by rw [u64_wrap]; omega
 rw [f45, st_I h0, st_I h1, hw, hor, hw2, interp_ret]
end Go.Dn.Dec
namespace Go.Dn.Dec
open Go.Proofs
def raT (b1 b2 : Bool) (x y : Nat) (b4 : Bool) (out : List Int) (c i : Nat) : Task :=
 Task.at_ 109 0 [false, true, false, true, true, true] (sv 42 [(0, V.d (D.l b1 (ws x))), (1, V.d (D.l b2 (ws y))), (5, V.d (D.l b4 (ints .u32 out))), (6, V.d (D.i .u64 (c : Int))), (7, V.d (D.i .i64 (i : Int)))]) [(5, 1)] []
theorem radd_step (b1 b2 : Bool) (x y : Nat) (b4 : Bool) (out : List Int) (c i : Nat) (hi : i ≤ 1000000) (hl : out.length = i) (hc : c < 4294967296) :
  rk Tryz.prog pol (Task.at_ 109 0 [true, false, false, false, true, false, true, true, true]
   (sv 42 [(0, V.d (D.l b1 (ws x))), (1, V.d (D.l b2 (ws y))), (5, V.d (D.l b4 (ints .u32 out))), (6, V.d (D.i .u64 (c : Int))), (7, V.d (D.i .i64 (i : Int))), (21, V.d (D.b true))]) [(5, 1)] []) =
  rk Tryz.prog pol (raT b1 b2 x y false (out ++ [(((c + dg x i + dg y i) % W : Nat) : Int)]) ((c + dg x i + dg y i) / W) (i + 1)) := by
 have d1 := dg_lt x i
 have d2 := dg_lt y i
 have w1 : IntKind.u64.wrap ((c : Int) + ((dg x i : Nat) : Int)) = ((c + dg x i : Nat) : Int) := by rw [u64_wrap]; omega
 have w2 : IntKind.u64.wrap (((c + dg x i : Nat) : Int) + ((dg y i : Nat) : Int)) = ((c + dg x i + dg y i : Nat) : Int) := by rw [u64_wrap]; omega
 have w3 : IntKind.u32.wrap ((c + dg x i + dg y i : Nat) : Int) = (((c + dg x i + dg y i) % W : Nat) : Int) := by rw [u32_wrap, mod_W]
 have w4 : IntKind.i64.wrap ((i : Int) + 1) = ((i + 1 : Nat) : Int) := by rw [wrap_i64] <;> omega
 rw [f28_at791, st_T, st_I (rat_ws b1 x i), st_I (rat_ws b2 y i), head_ints, st_ift, Bool.or_true, st_ift, st_if (by rw [len_ints]; omega), Bool.and_false, w1, w2, w3, w4, fdiv_W, ints_snoc, interp_call_ret]
 rfl
theorem radd_loop (b1 b2 : Bool) (x y : Nat) (L : Nat) (hLx : (limbs x).length ≤ L) (hLy : (limbs y).length ≤ L) (hL : L ≤ 100000) : ∀ (d i : Nat) (b4 : Bool) (out : List Int) (c : Nat), i + d = L + 1 → U32 out → out.length = i → c < 2 → valL out + W ^ i * (c + x / W ^ i + y / W ^ i) = x + y → (d = 0 → c = 0) →
  rk Tryz.prog pol (raT b1 b2 x y b4 out c i) = some (.d (.l (nb (x + y)) (ws (x + y))), []) := by
 intro d
 induction d with
 | zero =>
  intro i b4 out c hi hu hl hc hv h0
  have zx : x / W ^ i = 0 := dg_beyond (by omega)
  have zy : y / W ^ i = 0 := dg_beyond (by omega)
  rw [zx, zy, h0 rfl] at hv
  have hn := norm_run b4 out hu (by omega)
  rw [show valL out = x + y by simpa using hv, nl_ws] at hn
  unfold raT
  rw [f28_at87, ws_len, ws_len, st_f (by omega), st_f (by omega), interp_call_ret, f28_at791, h0 rfl, st_bf (by rfl), st_L hn, interp_ret]
 | succ d ih =>
  intro i b4 out c hi hu hl hc hv h0
  have d1 := dg_lt x i
  have d2 := dg_lt y i
  have sx := dg_split x i
  have sy := dg_split y i
  have step : rk Tryz.prog pol (raT b1 b2 x y false (out ++ [(((c + dg x i + dg y i) % W : Nat) : Int)]) ((c + dg x i + dg y i) / W) (i + 1)) = some (.d (.l (nb (x + y)) (ws (x + y))), []) := by
   have hq : (c + dg x i + dg y i) / W < 2 := Nat.div_lt_of_lt_mul (by unfold W; omega)
   refine ih (i + 1) false _ _ (by omega) (hu.snoc (Nat.mod_lt _ W_pos)) (by simp [hl]) hq ?_ ?_
   ·rw [val_append, hl, ← hv, sx, sy]
    have e := Nat.mod_add_div (c + dg x i + dg y i) W
    simp only [valL, Int.toNat_natCast, Nat.mul_zero, Nat.add_zero]
    rw [Nat.pow_succ, Nat.mul_assoc, Nat.add_assoc, ← Nat.mul_add]
    congr 2
    rw [Nat.mul_add, Nat.mul_add]
    omega
   ·intro hd
    have zx : dg x i = 0 := by unfold dg; rw [dg_beyond (by omega)]; exact Nat.zero_mod _
    have zy : dg y i = 0 := by unfold dg; rw [dg_beyond (by omega)]; exact Nat.zero_mod _
    rw [zx, zy]
    exact Nat.div_eq_of_lt (by unfold W; omega)
  rw [← step, ← radd_step b1 b2 x y b4 out c i (by omega) hl (by omega)]
  unfold raT
  rw [f28_at87, ws_len, ws_len]
  by_cases h1 : i < (limbs x).length
  ·rw [st_t (by omega), interp_call_ret]
  ·rw [st_f (by omega)]
   by_cases h2 : i < (limbs y).length
   ·rw [st_t (by omega), interp_call_ret]
   ·rw [st_f (by omega), interp_call_ret]
    by_cases h3 : 0 < c
    ·rw [show decide ((c : Int) > 0) = true from decide_eq_true (by omega)]
    ·-- nothing is left
     have hc0 : c = 0 := by omega
     have zx : x / W ^ i = 0 := dg_beyond (by omega)
     have zy : y / W ^ i = 0 := dg_beyond (by omega)
     rw [zx, zy, hc0] at hv
     have hn := norm_run b4 out hu (by omega)
     rw [show valL out = x + y by simpa using hv, nl_ws] at hn
     rw [show decide ((c : Int) > 0) = false from decide_eq_false (by omega), f28_at791, st_F, st_L hn, interp_ret, radd_step b1 b2 x y b4 out c i (by omega) hl (by omega), step]
theorem radd_ws (b c : Bool) (x y : Nat) (hx : Fits x) (hy : Fits y) : rk Tryz.prog pol (Task.call 109 [V.d (D.l b (ws x)), V.d (D.l c (ws y))] []) = some (.d (.l (nb (x + y)) (ws (x + y))), []) := by
 have lx := hx.len
 have ly := hy.len
 rw [f28, interp_call_ret]
 exact radd_loop b c x y (max (limbs x).length (limbs y).length) (by omega) (by omega) (by omega) _ 0 true [] 0 (by rw [Nat.zero_add]) U32.nil rfl (by decide) (by simp [valL]) (by omega)
def rsT (b1 b2 : Bool) (x y : Nat) (b4 : Bool) (out : List Int) (c i : Nat) : Task :=
 Task.at_ 154 0 [false, true, false, true, true, true, true] (sv 40 [(0, V.d (D.l b1 (ws x))), (1, V.d (D.l b2 (ws y))), (6, V.d (D.l b4 (ints .u32 out))), (7, V.d (D.i .u64 (c : Int))), (8, V.d (D.i .i64 (i : Int)))]) [(6, 1)] []
theorem mod_pow_succ (x i : Nat) : x % W ^ (i + 1) = x % W ^ i + W ^ i * dg x i := by
 unfold dg
 rw [Nat.pow_succ, Nat.mod_mul]
theorem rsub_loop (b1 b2 : Bool) (x y : Nat) (hyx : y ≤ x) (hL : (limbs x).length ≤ 100000) : ∀ (d i : Nat) (b4 : Bool) (out : List Int) (c : Nat), i + d = (limbs x).length → U32 out → out.length = i → c < 2 → valL out + y % W ^ i = x % W ^ i + W ^ i * c →
  rk Tryz.prog pol (rsT b1 b2 x y b4 out c i) = some (.t [.d (.l (nb (x - y)) (ws (x - y))), .d (.b true)], []) := by
 intro d
 induction d with
 | zero =>
  intro i b4 out c hi hu hl hc hv
  have hxl := limbs_lt_len x
  have hil : i = (limbs x).length := by omega
  subst hil
  rw [Nat.mod_eq_of_lt hxl, Nat.mod_eq_of_lt (Nat.lt_of_le_of_lt hyx hxl)] at hv
  have hvl := val_lt hu
  rw [hl] at hvl
  have hc0 : c = 0 := by
   rcases Nat.eq_zero_or_pos c with h | h
   ·exact h
   ·have : c = 1 := by omega
    rw [this] at hv; omega
  rw [hc0] at hv
  have hn := norm_run b4 out hu (by omega)
  rw [show valL out = x - y by omega, nl_ws] at hn
  unfold rsT
  rw [f69_at175, ws_len, st_f (by omega), st_L hn, interp_ret]
 | succ d ih =>
  intro i b4 out c hi hu hl hc hv
  have d1 := dg_lt x i
  have d2 := dg_lt y i
  obtain ⟨D, hD⟩ : ∃ D, D = dg x i + 4294967296 - dg y i - c := ⟨_, rfl⟩
  have w1 : IntKind.u64.wrap (((dg x i : Nat) : Int) + 4294967296) = ((dg x i + 4294967296 : Nat) : Int) := by rw [u64_wrap]; omega
  have w2 : IntKind.u64.wrap (((dg x i + 4294967296 : Nat) : Int) - ((dg y i : Nat) : Int)) = ((dg x i + 4294967296 - dg y i : Nat) : Int) := by rw [u64_wrap]; omega
  have w3 : IntKind.u64.wrap (((dg x i + 4294967296 - dg y i : Nat) : Int) - (c : Int)) = (D : Int) := by rw [u64_wrap]; omega
  obtain ⟨R, Q, hR, hQ, e⟩ : ∃ R Q, D % W = R ∧ D / W = Q ∧ R + 4294967296 * Q = D := ⟨_, _, rfl, rfl, Nat.mod_add_div D W⟩
  have hR32 : R < 4294967296 := hR ▸ Nat.mod_lt _ W_pos
  have w4 : IntKind.u32.wrap (D : Int) = (R : Int) := by rw [u32_wrap, mod_W, hR]
  have hq : Q ≤ 1 := by omega
  have w5 : IntKind.u64.wrap (1 - (D : Int).fdiv 4294967296) = ((1 - Q : Nat) : Int) := by rw [fdiv_W, hQ, u64_wrap]; omega
  have w6 : IntKind.i64.wrap ((i : Int) + 1) = ((i + 1 : Nat) : Int) := by rw [wrap_i64] <;> omega
  have ih' := ih (i + 1) false (out ++ [(R : Int)]) (1 - Q) (by omega) (hu.snoc hR32) (by simp [hl]) (by omega) (by
   rw [val_append, hl, mod_pow_succ, mod_pow_succ]
   simp only [valL, Int.toNat_natCast, Nat.mul_zero, Nat.add_zero]
   have k : R + dg y i + c = dg x i + W * (1 - Q) := by
    rcases Nat.lt_or_ge Q 1 with h | h
    ·have : Q = 0 := by omega
     rw [this] at e ⊢; unfold W; omega
    ·have : Q = 1 := by omega
     rw [this] at e ⊢; unfold W; omega
   have k2 : W ^ i * R + W ^ i * dg y i + W ^ i * c = W ^ i * dg x i + W ^ (i + 1) * (1 - Q) := by
    rw [← Nat.mul_add, ← Nat.mul_add, k, Nat.mul_add, Nat.pow_succ, Nat.mul_assoc]
   omega)
  unfold rsT at ih' ⊢
  rw [f69_at175, ws_len, st_t (by omega), st_I (rat_ws b1 x i), st_I (rat_ws b2 y i), head_ints, st_ift, Bool.or_true, st_ift, st_if (by rw [len_ints]; omega), Bool.and_false, w1, w2, w3, w4, w5, w6, ints_snoc, interp_call_ret]
  exact ih'
theorem rsub_ws (b c : Bool) (x y : Nat) (hx : Fits x) (hy : Fits y) : rk Tryz.prog pol (Task.call 154 [V.d (D.l b (ws x)), V.d (D.l c (ws y))] []) = some (if x < y then .t [.d (.l true []), .d (.b false)] else .t [.d (.l (nb (x - y)) (ws (x - y))), .d (.b true)], []) := by
 have lx := hx.len
 rw [f69, st_I (rcmp_ws b c x y hx hy)]
 by_cases h : x < y
 ·rw [if_pos h, st_t (by unfold cmpN; rw [if_pos h]; decide), interp_ret]
 ·rw [if_neg h, st_f (by unfold cmpN; rw [if_neg h]; split <;> decide), interp_call_ret]
  exact rsub_loop b c x y (by omega) (by omega) _ 0 true [] 0 (by rw [Nat.zero_add]) U32.nil rfl (by decide) (by simp [valL, Nat.mod_one])
end Go.Dn.Dec
namespace Go.Dn.Dec
open Go.Proofs
def rmI (bx by_ : Bool) (x y : List Int) (n i c k : Nat) (out : List Int) : Task :=
 Task.at_ 105 0 [false, true, false, true, false, false, true, false, false, true, false, true, true]
  (sv 68 [(0, V.d (D.l bx (ints .u32 x))), (1, V.d (D.l by_ (ints .u32 y))), (5, V.m 0 0 n), (6, V.d (D.i .i64 (i : Int))), (7, V.d (D.i .u64 (c : Int))), (8, V.d (D.i .i64 (k : Int)))]) [] [Ob.cells (cellsOf out) []]
def rmO (bx by_ : Bool) (x y : List Int) (n i : Nat) (out : List Int) : Task :=
 Task.at_ 105 0 [false, true, false, true, true] (sv 68 [(0, V.d (D.l bx (ints .u32 x))), (1, V.d (D.l by_ (ints .u32 y))), (5, V.m 0 0 n), (6, V.d (D.i .i64 (i : Int)))]) [] [Ob.cells (cellsOf out) []]
theorem rmul_inner (bx by_ : Bool) (xs y : List Int) (hxs : U32 xs) (hy : U32 y) (i n x : Nat) (hi : i < xs.length) (ex : xs[i] = (x : Int)) (hx : x < 4294967296) (hn : i + y.length < n) (hyl : n ≤ 1000000) :
  ∀ (d k : Nat) (c : Nat) (out : List Int), k + d = y.length → U32 out → out.length = n → c < 4294967296 → (∀ j, i + y.length ≤ j → j < out.length → out[j]? = some 0) →
  ∃ (c' : Nat) (out' : List Int), U32 out' ∧ out'.length = n ∧ c' < 4294967296 ∧ (∀ j, i + y.length ≤ j → j < out'.length → out'[j]? = some 0) ∧
   valL out' + W ^ (i + y.length) * c' = valL out + W ^ (i + k) * (c + x * valL (y.drop k)) ∧
   rk Tryz.prog pol (rmI bx by_ xs y n i c k out) = rk Tryz.prog pol (rmI bx by_ xs y n i c' y.length out') := by
 intro d
 induction d with
 | zero =>
  intro k c out hk hu hl hc hz
  have hky : k = y.length := by omega
  subst hky
  refine ⟨c, out, hu, hl, hc, hz, ?_, rfl⟩
  rw [List.drop_length]; simp [valL]
 | succ d ih =>
  intro k c out hk hu hl hc hz
  have hky : k < y.length := by omega
  have gy := List.getElem?_eq_getElem hky
  have gx := List.getElem?_eq_getElem hi
  obtain ⟨w, ew, hw32⟩ := hy.get hky
  have hj : i + k < out.length := by omega
  have gj := List.getElem?_eq_getElem hj
  obtain ⟨o, eo, ho32⟩ := hu.get hj
  have hm := mulW hx hw32
  have hT : c + o + x * w < 18446744073709551616 := by omega
  have hmod : (c + o + x * w) % W < 4294967296 := Nat.mod_lt _ W_pos
  have hdiv : (c + o + x * w) / W < 4294967296 := by unfold W; omega
  obtain ⟨c', out', u1, u2, u3, u4, u5, u6⟩ := ih (k + 1) ((c + o + x * w) / W) (out.set (i + k) (((c + o + x * w) % W : Nat) : Int)) (by omega) (hu.set _ hmod) (by simpa using hl) hdiv (zeros_set hz (by omega) _)
  refine ⟨c', out', u1, u2, u3, u4, ?_, ?_⟩
  ·rw [u5]
   have hs := val_set out (i + k) (((c + o + x * w) % W : Nat) : Int) hj
   rw [eo] at hs
   simp only [Int.toNat_natCast] at hs
   have hd := Nat.mod_add_div (c + o + x * w) W
   rw [drop_val hky, ew]
   simp only [Int.toNat_natCast]
   have e1 : W ^ (i + (k + 1)) * ((c + o + x * w) / W + x * valL (y.drop (k + 1))) = W ^ (i + k) * (W * ((c + o + x * w) / W)) + W ^ (i + k) * (W * (x * valL (y.drop (k + 1)))) := by
    rw [show i + (k + 1) = (i + k) + 1 from rfl, Nat.pow_succ, Nat.mul_assoc, Nat.mul_add, Nat.mul_add]
   have e2 : W ^ (i + k) * (c + x * (w + W * valL (y.drop (k + 1)))) = W ^ (i + k) * (c + x * w) + W ^ (i + k) * (W * (x * valL (y.drop (k + 1)))) := by
    rw [← Nat.mul_add]; congr 1
    rw [Nat.mul_add, ← Nat.add_assoc]; congr 1
    rw [Nat.mul_left_comm]
   rw [e1, e2]
   have e3 : W ^ (i + k) * ((c + o + x * w) % W) + W ^ (i + k) * (W * ((c + o + x * w) / W)) = W ^ (i + k) * (c + x * w) + W ^ (i + k) * o := by
    rw [← Nat.mul_add, hd, ← Nat.mul_add]; congr 1; omega
   omega
  ·rw [← u6]
   unfold rmI
   have hw1 : IntKind.i64.wrap ((i : Int) + (k : Int)) = ((i + k : Nat) : Int) := by rw [wrap_i64] <;> omega
   have hw2 : IntKind.i64.wrap ((k : Int) + 1) = ((k + 1 : Nat) : Int) := by rw [wrap_i64] <;> omega
   have ho : IntKind.u64.wrap (o : Int) = (o : Int) := by rw [u64_wrap]; omega
   have hxw : IntKind.u64.wrap (x : Int) = (x : Int) := by rw [u64_wrap]; omega
   have hww : IntKind.u64.wrap (w : Int) = (w : Int) := by rw [u64_wrap]; omega
   have hp : IntKind.u64.wrap ((x : Int) * (w : Int)) = ((x * w : Nat) : Int) := by rw [← Int.natCast_mul, u64_wrap, mod_64 (by omega)]
   have hco : IntKind.u64.wrap ((c : Int) + (o : Int)) = ((c + o : Nat) : Int) := by rw [u64_wrap]; omega
   have hw3 : IntKind.u64.wrap (((c + o : Nat) : Int) + ((x * w : Nat) : Int)) = ((c + o + x * w : Nat) : Int) := by rw [← Int.natCast_add, u64_wrap, mod_64 hT]
   have hw4 : IntKind.u32.wrap ((c + o + x * w : Nat) : Int) = (((c + o + x * w) % W : Nat) : Int) := by rw [u32_wrap, mod_W]
   have hw5 : ((c + o + x * w : Nat) : Int).fdiv 4294967296 = (((c + o + x * w) / W : Nat) : Int) := fdiv_W _
   generalize (c + o + x * w : Nat) = T at hw3 hw4 hw5 ⊢
   have hb1 : (0 : Int) ≤ ((i + k : Nat) : Int) ∧ ((i + k : Nat) : Int) < (n : Int) := by omega
   have hb2 : 0 + (i + k) < (cellsOf out).length := by rw [cellsOf_len]; omega
   have ho1 : (cellsOf out)[0 + (i + k)]? = some (V.d (D.i .u32 (o : Int))) := by rw [Nat.zero_add, cellsOf_get, gj, eo]; rfl
   have hx1 : (ints .u32 xs)[i]? = some (D.i .u32 (x : Int)) := by rw [get_ints, gx, ex]; rfl
   have hy1 : (ints .u32 y)[k]? = some (D.i .u32 (w : Int)) := by rw [get_ints, gy, ew]; rfl
   rw [f29_at10827, len_ints, st_t (by omega), hw1, st_if hb1, Int.toNat_natCast, Int.toNat_natCast, Int.toNat_natCast, st_ob ho1, asD_d, st_asI, getI_nat, st_ob hx1, width1_i, st_ift, st_ob hx1, st_ob (cells0_i _ _), st_asI, getI_nat, st_ob hy1, width1_i, st_ift, st_ob hy1, st_ob (cells0_i _ _), st_asI,
    st_if hb1, Bool.and_true, st_if hb2, ho, hxw, hww, hp, hco, hw3, hw4, hw5, hw2, Nat.zero_add, cells_set, interp_call_ret]
theorem rmul_row (bx by_ : Bool) (x y : List Int) (hx : U32 x) (hy : U32 y) (n : Nat) (hn : n = x.length + y.length + 1) (hb : n ≤ 1000000) (i : Nat) (hi : i < x.length) (out : List Int) (hu : U32 out) (hl : out.length = n) (hz : ∀ j, i + y.length ≤ j → j < out.length → out[j]? = some 0) :
  ∃ out', U32 out' ∧ out'.length = n ∧ (∀ j, (i + 1) + y.length ≤ j → j < out'.length → out'[j]? = some 0) ∧ valL out' = valL out + W ^ i * (x[i].toNat * valL y) ∧
   rk Tryz.prog pol (rmO bx by_ x y n i out) = rk Tryz.prog pol (rmO bx by_ x y n (i + 1) out') := by
 obtain ⟨a, ea, ha32⟩ := hx.get hi
 obtain ⟨c', o', u1, u2, u3, u4, u5, u6⟩ := rmul_inner bx by_ x y hx hy i n a hi ea ha32 (by omega) hb y.length 0 0 out (by omega) hu hl (by decide) hz
 have hj : i + y.length < o'.length := by omega
 refine ⟨o'.set (i + y.length) (c' : Int), u1.set _ u3, by simpa using u2, fun j h1 h2 => ?_, ?_, ?_⟩
 ·rw [List.getElem?_set_ne (by omega)]
  exact u4 j (by omega) (by simpa using h2)
 ·have hs := val_set o' (i + y.length) (c' : Int) hj
  have h0 : o'[i + y.length] = 0 := by
   have := u4 (i + y.length) (Nat.le_refl _) hj
   rw [List.getElem?_eq_getElem hj] at this
   exact Option.some.inj this
  rw [h0] at hs
  simp only [Int.toNat_natCast, Int.toNat_zero, Nat.mul_zero, Nat.add_zero] at hs
  rw [hs, u5, List.drop_zero, Nat.add_zero, Nat.zero_add, ea, Int.toNat_natCast]
 ·have e1 : rk Tryz.prog pol (rmO bx by_ x y n i out) = rk Tryz.prog pol (rmI bx by_ x y n i 0 0 out) := by
   unfold rmO rmI
   rw [f29_at43, len_ints, st_t (by omega), interp_call_ret]
   rfl
  rw [e1, u6]
  unfold rmI rmO
  have hw1 : IntKind.i64.wrap ((i : Int) + (y.length : Int)) = ((i + y.length : Nat) : Int) := by rw [wrap_i64] <;> omega
  have hw2 : IntKind.i64.wrap ((i : Int) + 1) = ((i + 1 : Nat) : Int) := by rw [wrap_i64] <;> omega
  have hw4 : IntKind.u32.wrap (c' : Int) = (c' : Int) := by rw [u32_wrap, mod_32 u3]
  have hb1 : (0 : Int) ≤ ((i + y.length : Nat) : Int) ∧ ((i + y.length : Nat) : Int) < (n : Int) := by omega
  have hb2 : 0 + (i + y.length) < (cellsOf o').length := by rw [cellsOf_len]; omega
  rw [f29_at10827, len_ints, st_f (by omega), hw1, hw2, hw4, st_if hb1, Int.toNat_natCast, Bool.and_true, st_if hb2, Nat.zero_add, cells_set, interp_call_ret]
theorem rmul_outer (bx by_ : Bool) (x y : List Int) (hx : U32 x) (hy : U32 y) (n : Nat) (hn : n = x.length + y.length + 1) (hb : n ≤ 1000000) : ∀ (d i : Nat) (out : List Int), i + d = x.length → U32 out → out.length = n → (∀ j, i + y.length ≤ j → j < out.length → out[j]? = some 0) → valL out = valL (x.take i) * valL y →
  rk Tryz.prog pol (rmO bx by_ x y n i out) = some (.d (.l (nb (valL x * valL y)) (ws (valL x * valL y))), []) := by
 intro d
 induction d with
 | zero =>
  intro i out hi hu hl hz hv
  have hix : i = x.length := by omega
  subst hix
  rw [List.take_length] at hv
  unfold rmO
  have hc := normm_run out hu (by omega)
  rw [hl, hv, nl_ws] at hc
  rw [f29_at43, len_ints, st_f (by omega), st_call hc, unCons_c, unCells_c, beq_self_eq_true, st_ift, show (([] : Fl) == []) = true from rfl, st_ift, unNil_n]; rfl
 | succ d ih =>
  intro i out hi hu hl hz hv
  have hix : i < x.length := by omega
  obtain ⟨o', u1, u2, u3, u4, u5⟩ := rmul_row bx by_ x y hx hy n hn hb i hix out hu hl hz
  rw [u5]
  refine ih (i + 1) o' (by omega) u1 u2 u3 ?_
  rw [u4, hv, List.take_add_one, List.getElem?_eq_getElem hix, val_append]
  simp only [Option.toList_some, valL, Nat.mul_zero, Nat.add_zero, List.length_take, Nat.min_eq_left (Nat.le_of_lt hix)]
  rw [Nat.add_mul, Nat.mul_assoc]
theorem rmul_ws (b c : Bool) (x y : Nat) (hx : Fits x) (hy : Fits y) : rk Tryz.prog pol (Task.call 105 [V.d (D.l b (ws x)), V.d (D.l c (ws y))] []) = some (.d (.l (nb (x * y)) (ws (x * y))), []) := by
 have lx := hx.len
 have ly := hy.len
 have h := rmul_outer b c (limbs x) (limbs y) (limbs_u32 x) (limbs_u32 y) ((limbs x).length + (limbs y).length + 1) rfl (by omega) (limbs x).length 0 (List.replicate ((limbs x).length + (limbs y).length + 1) 0) (by omega)
  (fun z hz => by rw [List.mem_replicate] at hz; omega) (by simp) (fun j _ hj => by simp at hj; simp [hj]) (by rw [val_replicate]; simp [valL])
 rw [val_limbs, val_limbs] at h
 unfold rmO at h
 rw [← cells_replicate, Int.natCast_zero] at h
 have hw1 : IntKind.i64.wrap (((limbs x).length : Int) + ((limbs y).length : Int)) = (((limbs x).length + (limbs y).length : Nat) : Int) := by rw [wrap_i64] <;> omega
 have hw2 : IntKind.i64.wrap ((((limbs x).length + (limbs y).length : Nat) : Int) + 1) = (((limbs x).length + (limbs y).length + 1 : Nat) : Int) := by rw [wrap_i64] <;> omega
 rw [f29, ws_len, ws_len, hw1, hw2, st_if (by omega), st_if rfl, st_if (by omega), Int.toNat_natCast, interp_call_ret]
 exact h
theorem rten_loop (n : Nat) (hn : n ≤ 1000) : ∀ (d i : Nat) (b : Bool), i + d = n →
  rk Tryz.prog pol (Task.at_ 106 0 [false, true, false, true, true, true] (sv 17 [(0, V.d (D.i .i64 (n : Int))), (3, V.d (D.l b (ws (10 ^ i)))), (4, V.d (D.i .i64 (i : Int)))]) [] []) = some (.d (.l (if d = 0 then b else nb (10 ^ n)) (ws (10 ^ n))), [])
 | 0, i, b, h => by
  have : i = n := by omega
  subst this
  rw [f31_at87, st_f (by omega), interp_ret, if_pos rfl]
 | d + 1, i, b, h => by
  have hw : IntKind.i64.wrap ((i : Int) + 1) = ((i + 1 : Nat) : Int) := by rw [wrap_i64] <;> omega
  have hm : rk Tryz.prog pol (Task.call 105 [V.d (D.l b (ws (10 ^ i))), V.d (D.l true [D.i IntKind.u32 10])] []) = some (.d (.l (nb (10 ^ i * 10)) (ws (10 ^ i * 10))), []) := by
   have := rmul_ws b true (10 ^ i) 10 (fits_pow (by omega)) (by have := fits_pow (n := 1) (by decide); rwa [Nat.pow_one] at this)
   rw [show ws 10 = [D.i IntKind.u32 10] by rw [ws, limbs_pos (by decide), show 10 / W = 0 by decide, limbs_zero]; rfl] at this
   exact this
  rw [f31_at87, st_t (by omega), st_L hm, hw, interp_call_ret, ← Nat.pow_succ]
  have := rten_loop n hn d (i + 1) (nb (10 ^ (i + 1))) (by omega)
  have e : (if d = 0 then nb (10 ^ (i + 1)) else nb (10 ^ n)) = nb (10 ^ n) := by
   split
   ·rw [show i + 1 = n by omega]
   ·rfl
  rw [this, e, if_neg (show ¬ d + 1 = 0 by omega)]
theorem ws_one : ws 1 = [D.i IntKind.u32 1] := by
 rw [ws, limbs_pos (by decide), show 1 / W = 0 by decide, limbs_zero]; rfl
def tb (n : Nat) : Bool := if n = 0 then true else nb (10 ^ n)
theorem rten_ws (n : Nat) (hn : n ≤ 1000) : rk Tryz.prog pol (Task.call 106 [V.d (D.i .i64 (n : Int))] []) = some (.d (.l (tb n) (ws (10 ^ n))), []) := by
 have := rten_loop n hn n 0 true (by omega)
 rw [Nat.pow_zero, ws_one] at this
 rw [f31, st_f (by omega), interp_call_ret]
 exact this
end Go.Dn.Dec
namespace Go.Dn.Dec
open Go.Proofs
section
variable {f : Task → Option Out}
theorem st_LB {t : Task} {b c : Bool} {l : List D} {e e' : V} {K : Bool → List D → Bool → Tr} (h : f t = some (.t [.d (.l b l), .d (.b c)], [])) :
  interp f (.call t fun o => ift o.snd.isEmpty (unT o.fst fun l => ift (l.length == 2) (asD (l.getD 0 e) fun d => asL d fun x y => asD (l.getD 1 e') fun d' => asB d' fun z => K x y z))) = interp f (K b l c) := st_call h
end
theorem or32l {z k : Nat} (hz : z < 2 ^ k) (hk : k < 32) : IntKind.u32.wrap (((BitVec.ofInt IntKind.u32.bits (z : Int) ||| BitVec.ofInt IntKind.u32.bits (IntKind.u32.wrap (1 * 2 ^ k))).toNat : Nat) : Int) = ((z + 2 ^ k : Nat) : Int) ∧ z + 2 ^ k < 4294967296 := by
 have h2 : 2 ^ k ≤ 2147483648 := Nat.le_trans (Nat.pow_le_pow_right (by decide) (show k ≤ 31 by omega)) (by decide)
 have hlt : z + 2 ^ k < 4294967296 := by omega
 refine ⟨?_, hlt⟩
 have e : (1 : Int) * 2 ^ k = ((2 ^ k : Nat) : Int) := by simp
 rw [e, u32_wrap (((2 ^ k : Nat)) : Int), mod_32 (by omega)]
 have h3 : (BitVec.ofInt IntKind.u32.bits (z : Int) ||| BitVec.ofInt IntKind.u32.bits ((2 ^ k : Nat) : Int)).toNat = z ||| 2 ^ k := by
  show (BitVec.ofInt 32 (z : Int) ||| BitVec.ofInt 32 ((2 ^ k : Nat) : Int)).toNat = _
  rw [BitVec.toNat_or, BitVec.ofInt_natCast, BitVec.ofInt_natCast, BitVec.toNat_ofNat, BitVec.toNat_ofNat, Nat.mod_eq_of_lt (by omega), Nat.mod_eq_of_lt (by omega)]
 have h4 : z ||| 2 ^ k = z + 2 ^ k := by
  have := or_add (a := 1) hz
  rwa [Nat.one_mul] at this
 rw [h3, h4, u32_wrap]; omega
theorem set_low {qs : List Int} (hu : U32 qs) {p : Nat} (hp : p / 32 < qs.length) (hv : valL qs < 2 ^ p) :
  ∃ z : Nat, qs[p / 32]? = some (z : Int) ∧ IntKind.u32.wrap (((BitVec.ofInt IntKind.u32.bits (z : Int) ||| BitVec.ofInt IntKind.u32.bits (IntKind.u32.wrap (1 * 2 ^ (p % 32)))).toNat : Nat) : Int) = ((z + 2 ^ (p % 32) : Nat) : Int) ∧
   U32 (qs.set (p / 32) ((z + 2 ^ (p % 32) : Nat) : Int)) ∧ valL (qs.set (p / 32) ((z + 2 ^ (p % 32) : Nat) : Int)) = valL qs + 2 ^ p := by
 have hwd := word_of hu hp
 have hlow : valL qs / W ^ (p / 32) % W < 2 ^ (p % 32) := by
  refine Nat.lt_of_le_of_lt (Nat.mod_le _ _) (Nat.div_lt_of_lt_mul ?_)
  rw [W_pow (p / 32) (p % 32), Nat.div_add_mod]; exact hv
 have hval := val_set qs (p / 32) ((valL qs / W ^ (p / 32) % W + 2 ^ (p % 32) : Nat) : Int) hp
 rw [hwd, Int.toNat_natCast, Int.toNat_natCast, Nat.mul_add, W_pow (p / 32) (p % 32), Nat.div_add_mod] at hval
 have hg : qs[p / 32]? = some ((valL qs / W ^ (p / 32) % W : Nat) : Int) := by rw [List.getElem?_eq_getElem hp, hwd]
 obtain ⟨h1, h2⟩ := or32l hlow (Nat.mod_lt _ (by decide))
 exact ⟨_, hg, h1, hu.set _ h2, by omega⟩
theorem set_high {qs : List Int} (hu : U32 qs) {i m : Nat} (hp : i / 32 < qs.length) (hv : valL qs = 2 ^ (i + 1) * m) :
  ∃ z : Nat, qs[i / 32]? = some (z : Int) ∧ IntKind.u32.wrap (((BitVec.ofInt IntKind.u32.bits (z : Int) ||| BitVec.ofInt IntKind.u32.bits (IntKind.u32.wrap (1 * 2 ^ (i % 32)))).toNat : Nat) : Int) = ((z + 2 ^ (i % 32) : Nat) : Int) ∧
   U32 (qs.set (i / 32) ((z + 2 ^ (i % 32) : Nat) : Int)) ∧ valL (qs.set (i / 32) ((z + 2 ^ (i % 32) : Nat) : Int)) = 2 ^ i * (2 * m + 1) := by
 have hk : i % 32 < 32 := Nat.mod_lt _ (by decide)
 have hwd := word_of hu hp
 have hz : valL qs / W ^ (i / 32) % W < 4294967296 := Nat.mod_lt _ W_pos
 have hlow : valL qs / W ^ (i / 32) % W % 2 ^ (i % 32 + 1) = 0 := low_zero (q := i / 32) (m := m) hk (by rw [Nat.div_add_mod]; exact hv)
 have hval := val_set qs (i / 32) ((valL qs / W ^ (i / 32) % W + 2 ^ (i % 32) : Nat) : Int) hp
 rw [hwd, Int.toNat_natCast, Int.toNat_natCast, Nat.mul_add, W_pow (i / 32) (i % 32), Nat.div_add_mod] at hval
 have hg : qs[i / 32]? = some ((valL qs / W ^ (i / 32) % W : Nat) : Int) := by rw [List.getElem?_eq_getElem hp, hwd]
 obtain ⟨h1, h2⟩ := or32 hz hk hlow
 refine ⟨_, hg, h1, hu.set _ h2, ?_⟩
 have : 2 ^ (i + 1) = 2 * 2 ^ i := by rw [Nat.pow_succ, Nat.mul_comm]
 have e : 2 ^ i * (2 * m + 1) = 2 ^ (i + 1) * m + 2 ^ i := by rw [this, Nat.mul_add, Nat.mul_one, ← Nat.mul_assoc, Nat.mul_comm (2 ^ i) 2]
 rw [e]; omega
def rlT (b : Bool) (x n L i : Nat) (out : List Int) : Task :=
 Task.at_ 102 0 [false, true, false, true, true] (sv 53 [(0, V.d (D.l b (ws x))), (1, V.d (D.i .i64 (n : Int))), (5, V.m 0 0 L), (6, V.d (D.i .i64 (i : Int)))]) [] [Ob.cells (cellsOf out) []]
theorem rshl_loop (b : Bool) (x n : Nat) (hx : Fits x) (hn : n ≤ 100000) (L : Nat) (hL : L = (limbs x).length + n / 32 + 1) : ∀ (d i : Nat) (out : List Int), i + d = 32 * (limbs x).length → U32 out → out.length = L → valL out = x % 2 ^ i * 2 ^ n →
  rk Tryz.prog pol (rlT b x n L i out) = some (.d (.l (nb (x * 2 ^ n)) (ws (x * 2 ^ n))), []) := by
 have lx := hx.len
 have hw0 : IntKind.i64.wrap (32 * ((limbs x).length : Int)) = ((32 * (limbs x).length : Nat) : Int) := by rw [wrap_i64] <;> omega
 intro d
 induction d with
 | zero =>
  intro i out hi hu hl hv
  have hxl : x < 2 ^ i := by rw [show i = 32 * (limbs x).length by omega, ← W_pow']; exact limbs_lt_len x
  rw [Nat.mod_eq_of_lt hxl] at hv
  have hc := normm_run out hu (by omega)
  rw [hl, hv, nl_ws] at hc
  unfold rlT
  rw [f40_at43, ws_len, hw0, st_f (by omega), st_call hc, unCons_c, unCells_c, beq_self_eq_true, st_ift, show (([] : Fl) == []) = true from rfl, st_ift, unNil_n]; rfl
 | succ d ih =>
  intro i out hi hu hl hv
  have hw1 : IntKind.i64.wrap ((i : Int) + 1) = ((i + 1 : Nat) : Int) := by rw [wrap_i64] <;> omega
  have hw2 : IntKind.i64.wrap ((i : Int) + (n : Int)) = ((i + n : Nat) : Int) := by rw [wrap_i64] <;> omega
  have hms : x % 2 ^ (i + 1) = x % 2 ^ i + 2 ^ i * (x / 2 ^ i % 2) := by rw [Nat.pow_succ, Nat.mod_mul]
  have hlow : x % 2 ^ i * 2 ^ n < 2 ^ (i + n) := by rw [Nat.pow_add]; exact Nat.mul_lt_mul_of_pos_right (Nat.mod_lt _ (Nat.pow_pos (by decide))) (Nat.pow_pos (by decide))
  unfold rlT at ih ⊢
  rw [f40_at43, ws_len, hw0, st_t (by omega), st_I (rbit_ws b x i (by omega))]
  rcases Nat.mod_two_eq_zero_or_one (x / 2 ^ i) with h | h
  ·rw [h, st_ne (by decide), interp_call_ret, f40_at1611, st_F, hw1, interp_call_ret]
   exact ih (i + 1) out (by omega) hu hl (by rw [hms, h, Nat.mul_zero, Nat.add_zero]; exact hv)
  ·have hq : (i + n) / 32 < out.length := by omega
   obtain ⟨z, z1, z2, z3, z4⟩ := set_low hu hq (by rw [hv]; exact hlow)
   have ht1 : ((i + n : Nat) : Int).tdiv 32 = (((i + n) / 32 : Nat) : Int) := tdiv_nat (i + n) 32
   have ht2 : ((i + n : Nat) : Int).tmod 32 = (((i + n) % 32 : Nat) : Int) := tmod_nat (i + n) 32
   have hw3 : IntKind.i64.wrap (((i + n) / 32 : Nat) : Int) = (((i + n) / 32 : Nat) : Int) := by rw [wrap_i64] <;> omega
   have hmin : min ((i + n) % 32) 32 = (i + n) % 32 := by omega
   have hb1 : (0 : Int) ≤ (((i + n) / 32 : Nat) : Int) ∧ (((i + n) / 32 : Nat) : Int) < (L : Int) := by omega
   have hb2 : 0 + (i + n) / 32 < (cellsOf out).length := by rw [cellsOf_len]; omega
   have hg : (cellsOf out)[0 + (i + n) / 32]? = some (V.d (D.i .u32 (z : Int))) := by rw [Nat.zero_add, cellsOf_get, z1]; rfl
   rw [h, st_eq (by decide), hw2, interp_call_ret, show decide (((i + n : Nat) : Int) ≥ 0) = true from decide_eq_true (by omega), f40_at1611, st_T, hw2, ht1, hw3, st_if hb1, Int.toNat_natCast, st_ob hg, asD_d, st_asI, ht2, st_if (by omega), st_if hb1, Bool.and_true, st_if hb2, Int.toNat_natCast, hmin, z2, hw1, Nat.zero_add, cells_set, interp_call_ret]
   exact ih (i + 1) _ (by omega) z3 (by simpa using hl) (by rw [z4, hv, hms, h, Nat.mul_one, Nat.add_mul, Nat.pow_add])
theorem rshl_ws (b : Bool) (x n : Nat) (hx : Fits x) (hn : n ≤ 100000) : rk Tryz.prog pol (Task.call 102 [V.d (D.l b (ws x)), V.d (D.i .i64 (n : Int))] []) = some (.d (.l (nb (x * 2 ^ n)) (ws (x * 2 ^ n))), []) := by
 have lx := hx.len
 have e1 : (if (0 : Int) > (n : Int) then 0 else (n : Int)) = (n : Int) := if_neg (by omega)
 have e2 : (n : Int).tdiv 32 = ((n / 32 : Nat) : Int) := tdiv_nat n 32
 have w1 : IntKind.i64.wrap ((n / 32 : Nat) : Int) = ((n / 32 : Nat) : Int) := by rw [wrap_i64] <;> omega
 have w2 : IntKind.i64.wrap (((limbs x).length : Int) + ((n / 32 : Nat) : Int)) = (((limbs x).length + n / 32 : Nat) : Int) := by rw [wrap_i64] <;> omega
 have w3 : IntKind.i64.wrap ((((limbs x).length + n / 32 : Nat) : Int) + 1) = (((limbs x).length + n / 32 + 1 : Nat) : Int) := by rw [wrap_i64] <;> omega
 have h := rshl_loop b x n hx hn _ rfl (32 * (limbs x).length) 0 (List.replicate ((limbs x).length + n / 32 + 1) 0) (by omega) (fun z hz => by rw [List.mem_replicate] at hz; omega) (by simp) (by rw [val_replicate, Nat.pow_zero, Nat.mod_one, Nat.zero_mul])
 unfold rlT at h
 rw [← cells_replicate, Int.natCast_zero] at h
 rw [f40, ws_len, e1, e2, w1, w2, w3, st_if (by omega), st_if rfl, st_if (by omega), Int.toNat_natCast, interp_call_ret]
 exact h
def rdT (bx by_ : Bool) (x y n : Nat) (br : Bool) (r : Nat) (i : Int) (fl : List (Nat × Nat)) (qs : List Int) : Task :=
 Task.at_ 107 0 [false, true, false, true, true, true, true] (sv 60 [(0, V.d (D.l bx (ws x))), (1, V.d (D.l by_ (ws y))), (7, V.m 0 0 n), (8, V.d (D.l br (ws r))), (9, V.d (D.i .i64 i))]) fl [Ob.cells (cellsOf qs) []]
theorem rdiv_step (bx by_ br : Bool) (x y n r i : Nat) (fl : List (Nat × Nat)) (hfl : fl = [(8, 1)] ∨ fl = []) (qs : List Int) (hy : Fits y) (hr : Fits r) (hr2 : Fits (r + r)) (hr3 : Fits (r + r + x / 2 ^ i % 2)) (hn : n = qs.length) (hi : i < 32 * n) (hn2 : n ≤ 100000) (hu : U32 qs) (m : Nat) (hv : valL qs = 2 ^ (i + 1) * m) :
  (r + r + x / 2 ^ i % 2 < y → rk Tryz.prog pol (rdT bx by_ x y n br r (i : Int) fl qs) = rk Tryz.prog pol (rdT bx by_ x y n (nb (r + r + x / 2 ^ i % 2)) (r + r + x / 2 ^ i % 2) ((i : Int) - 1) [] qs)) ∧
  (y ≤ r + r + x / 2 ^ i % 2 → ∃ qs', U32 qs' ∧ qs'.length = n ∧ valL qs' = 2 ^ i * (2 * m + 1) ∧ rk Tryz.prog pol (rdT bx by_ x y n br r (i : Int) fl qs) = rk Tryz.prog pol (rdT bx by_ x y n (nb (r + r + x / 2 ^ i % 2 - y)) (r + r + x / 2 ^ i % 2 - y) ((i : Int) - 1) [] qs')) := by
 have a1 := radd_ws br br r r hr hr
 have a2 := rbit_ws bx x i (by omega)
 have a3 := rof_ws (x / 2 ^ i % 2) (Nat.lt_trans (Nat.mod_lt _ (by decide)) (by decide))
 have a4 := radd_ws (nb (r + r)) (nb (x / 2 ^ i % 2)) (r + r) (x / 2 ^ i % 2) hr2 (fits_1.le (by omega))
 have a5 := rsub_ws (nb (r + r + x / 2 ^ i % 2)) by_ (r + r + x / 2 ^ i % 2) y hr3 hy
 have w1 : IntKind.i64.wrap ((i : Int) - 1) = (i : Int) - 1 := by rw [wrap_i64] <;> omega
 constructor
 ·intro h
  rw [if_pos h] at a5
  unfold rdT
  rcases hfl with rfl | rfl
  ·rw [f43_at175, st_t (by omega), st_L a1, st_I a2, st_L a3, st_L a4, st_LB a5, st_F, interp_call_ret, f43_at1839, w1, interp_call_ret]
  ·rw [f43_at175_1, st_t (by omega), st_L a1, st_I a2, st_L a3, st_L a4, st_LB a5, st_F, interp_call_ret, f43_at1839, w1, interp_call_ret]
 ·intro h
  rw [if_neg (by omega)] at a5
  have hq : i / 32 < qs.length := by omega
  obtain ⟨z, z1, z2, z3, z4⟩ := set_high hu hq hv
  have ht1 : (i : Int).tdiv 32 = ((i / 32 : Nat) : Int) := tdiv_nat i 32
  have ht2 : (i : Int).tmod 32 = ((i % 32 : Nat) : Int) := tmod_nat i 32
  have hw : IntKind.i64.wrap ((i / 32 : Nat) : Int) = ((i / 32 : Nat) : Int) := by rw [wrap_i64] <;> omega
  have hmin : min (i % 32) 32 = i % 32 := by omega
  have hb1 : (0 : Int) ≤ ((i / 32 : Nat) : Int) ∧ ((i / 32 : Nat) : Int) < (n : Int) := by omega
  have hb2 : 0 + i / 32 < (cellsOf qs).length := by rw [cellsOf_len]; omega
  have hg : (cellsOf qs)[0 + i / 32]? = some (V.d (D.i .u32 (z : Int))) := by rw [Nat.zero_add, cellsOf_get, z1]; rfl
  refine ⟨_, z3, by simp [hn], z4, ?_⟩
  unfold rdT
  rcases hfl with rfl | rfl
  ·rw [f43_at175, st_t (by omega), st_L a1, st_I a2, st_L a3, st_L a4, st_LB a5, st_T, ht1, hw, st_if hb1, Int.toNat_natCast, st_ob hg, asD_d, st_asI, ht2, st_if (by omega), st_if hb1, Bool.and_true, st_if hb2, Int.toNat_natCast, hmin, z2, Nat.zero_add, cells_set, interp_call_ret, f43_at1839, w1, interp_call_ret]
  ·rw [f43_at175_1, st_t (by omega), st_L a1, st_I a2, st_L a3, st_L a4, st_LB a5, st_T, ht1, hw, st_if hb1, Int.toNat_natCast, st_ob hg, asD_d, st_asI, ht2, st_if (by omega), st_if hb1, Bool.and_true, st_if hb2, Int.toNat_natCast, hmin, z2, Nat.zero_add, cells_set, interp_call_ret, f43_at1839, w1, interp_call_ret]
theorem rdiv_loop (bx by_ : Bool) (x y : Nat) (hx : Fits x) (hy : Fits (y * 2)) (hy0 : 0 < y) (n : Nat) (hnl : n = (limbs x).length + 1) : ∀ (i : Nat) (fl : List (Nat × Nat)) (r : Nat) (qs : List Int), (fl = [(8, 1)] ∨ fl = []) → i ≤ 32 * (limbs x).length → r = x / 2 ^ i % y → valL qs = 2 ^ i * (x / 2 ^ i / y) → U32 qs → qs.length = n →
  rk Tryz.prog pol (rdT bx by_ x y n (nb r) r ((i : Int) - 1) fl qs) = some (.t [.d (.l (nb (x / y)) (ws (x / y))), .d (.l (nb (x % y)) (ws (x % y))), .d (.b true)], []) := by
 have lx := hx.len
 intro i
 induction i with
 | zero =>
  intro fl r qs hfl hi hr hv hu hl
  rw [Nat.pow_zero, Nat.div_one] at hr
  rw [Nat.pow_zero, Nat.div_one, Nat.one_mul] at hv
  have hc := normm_run qs hu (by omega)
  rw [hl, hv, nl_ws] at hc
  unfold rdT
  rw [hr]
  rcases hfl with rfl | rfl
  ·rw [f43_at175, st_f (by omega), st_call hc, unCons_c, unCells_c, beq_self_eq_true, st_ift, show (([] : Fl) == []) = true from rfl, st_ift, unNil_n]; rfl
  ·rw [f43_at175_1, st_f (by omega), st_call hc, unCons_c, unCells_c, beq_self_eq_true, st_ift, show (([] : Fl) == []) = true from rfl, st_ift, unNil_n]; rfl
 | succ i ih =>
  intro fl r qs hfl hi hr hv hu hl
  have hry : r < y := by rw [hr]; exact Nat.mod_lt _ hy0
  have e : (((i + 1 : Nat) : Int) - 1) = (i : Int) := by omega
  have hb := Nat.mod_two_eq_zero_or_one (x / 2 ^ i)
  have fr : Fits r := hy.le (by omega)
  have fr2 : Fits (r + r) := hy.le (by omega)
  have fr1 : Fits (r + r + x / 2 ^ i % 2) := hy.le (by omega)
  have hX : x / 2 ^ i = 2 * (x / 2 ^ (i + 1)) + x / 2 ^ i % 2 := by
   rw [Nat.pow_succ, ← Nat.div_div_eq_div_mul]
   have := Nat.div_add_mod (x / 2 ^ i) 2
   omega
  have hdm := Nat.div_add_mod (x / 2 ^ (i + 1)) y
  rw [← hr] at hdm
  have hXY : x / 2 ^ i = y * (2 * (x / 2 ^ (i + 1) / y)) + (r + r + x / 2 ^ i % 2) := by
   have : y * (2 * (x / 2 ^ (i + 1) / y)) = 2 * (y * (x / 2 ^ (i + 1) / y)) := by rw [Nat.mul_left_comm]
   omega
  rw [e]
  have hm := rdiv_step bx by_ (nb r) x y n r i fl hfl qs (hy.le (by omega)) fr fr2 fr1 hl.symm (by omega) (by omega) hu (x / 2 ^ (i + 1) / y) hv
  by_cases hlt : r + r + x / 2 ^ i % 2 < y
  ·rw [hm.1 hlt]
   have hq : x / 2 ^ i / y = 2 * (x / 2 ^ (i + 1) / y) := by
    conv => lhs; rw [hXY]
    rw [Nat.mul_add_div hy0, Nat.div_eq_of_lt hlt, Nat.add_zero]
   have hrr : x / 2 ^ i % y = r + r + x / 2 ^ i % 2 := by
    conv => lhs; rw [hXY]
    rw [Nat.mul_add_mod, Nat.mod_eq_of_lt hlt]
   refine ih [] _ qs (Or.inr rfl) (by omega) hrr.symm ?_ hu hl
   rw [hv, hq, Nat.pow_succ, Nat.mul_assoc]
  ·obtain ⟨qs', u1, u2, u3, u4⟩ := hm.2 (by omega)
   rw [u4]
   have hq : x / 2 ^ i / y = 2 * (x / 2 ^ (i + 1) / y) + 1 := by
    conv => lhs; rw [hXY]
    have hd1 : (r + r + x / 2 ^ i % 2) / y = 1 := Nat.div_eq_of_lt_le (by omega) (by omega)
    rw [Nat.mul_add_div hy0, hd1]
   have hrr : x / 2 ^ i % y = r + r + x / 2 ^ i % 2 - y := by
    conv => lhs; rw [hXY]
    rw [Nat.mul_add_mod, Nat.mod_eq_sub_mod (by omega), Nat.mod_eq_of_lt (by omega)]
   refine ih [] _ qs' (Or.inr rfl) (by omega) hrr.symm ?_ u1 u2
   rw [u3, hq]
theorem rdiv_ws (b c : Bool) (x y : Nat) (hx : Fits x) (hy : Fits (y * 2)) (hy0 : 0 < y) : rk Tryz.prog pol (Task.call 107 [V.d (D.l b (ws x)), V.d (D.l c (ws y))] []) = some (.t [.d (.l (nb (x / y)) (ws (x / y))), .d (.l (nb (x % y)) (ws (x % y))), .d (.b true)], []) := by
 have lx := hx.len
 have hyl : (limbs y).length ≠ 0 := fun e => by
  have := (limbs_nil_iff y).1 (List.length_eq_zero_iff.1 e); omega
 have w1 : IntKind.i64.wrap (((limbs x).length : Int) + 1) = (((limbs x).length + 1 : Nat) : Int) := by rw [wrap_i64] <;> omega
 have w2 : IntKind.i64.wrap (32 * ((limbs x).length : Int)) = ((32 * (limbs x).length : Nat) : Int) := by rw [wrap_i64] <;> omega
 have w3 : IntKind.i64.wrap (((32 * (limbs x).length : Nat) : Int) - 1) = ((32 * (limbs x).length : Nat) : Int) - 1 := by rw [wrap_i64] <;> omega
 have hx0 : x / 2 ^ (32 * (limbs x).length) = 0 := Nat.div_eq_of_lt (by rw [← W_pow']; exact limbs_lt_len x)
 have h := rdiv_loop b c x y hx hy hy0 _ rfl (32 * (limbs x).length) [(8, 1)] 0 (List.replicate ((limbs x).length + 1) 0) (Or.inl rfl) (Nat.le_refl _) (by rw [hx0, Nat.zero_mod]) (by rw [hx0, Nat.zero_div, Nat.mul_zero, val_replicate]) (fun z hz => by rw [List.mem_replicate] at hz; omega) (by simp)
 unfold rdT at h
 rw [← cells_replicate, ws_zero] at h
 rw [f43, st_L (rnorm_ws c y (hy.le (by omega))), ws_len, ws_len, st_ne (by omega), w1, w2, w3, st_if (by omega), st_if rfl, st_if (by omega), Int.toNat_natCast, interp_call_ret]
 exact h
end Go.Dn.Dec
namespace Go.Dn.Dec
open Go.Proofs
set_option exponentiation.threshold 5000000
section
variable {f : Task → Option Out}
theorem st_LLB {t : Task} {b c z : Bool} {l m : List D} {e e' e'' : V} {K : Bool → List D → Bool → List D → Bool → Tr} (h : f t = some (.t [.d (.l b l), .d (.l c m), .d (.b z)], [])) :
  interp f (.call t fun o => ift o.snd.isEmpty (unT o.fst fun l => ift (l.length == 3) (asD (l.getD 0 e) fun d => asL d fun x y => asD (l.getD 1 e') fun d' => asL d' fun u v => asD (l.getD 2 e'') fun d'' => asB d'' fun w => K x y u v w))) = interp f (K b l c m z) := st_call h
end
end Go.Dn.Dec
namespace Go.Dn.Dec
structure Tok where
 kind : Nat
 text : List UInt8
 n : Int
 d : Nat
 at_ : Nat
end Go.Dn.Dec
