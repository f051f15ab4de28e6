/- field: both orders are one. -/
import Derived.Test.YtfbefnmggilfdaaFlA
import Derived.Test.YtfbefnmggilfdaaFlG
namespace Go.Dn
/-- How far a number stands behind those that are no greater. -/
def refK (zs : List Int) (out : List Nat) (i : Nat) : Nat := (out.takeWhile fun o => decide (zs.getD o 0 ≤ zs.getD i 0)).length
def refIns (zs : List Int) (out : List Nat) (i : Nat) : List Nat := out.take (refK zs out i) ++ [i] ++ out.drop (refK zs out i)
def refOrd (zs : List Int) (n : Nat) : List Nat := (List.range n).foldl (refIns zs) []
/-- The greater ones stand ahead. -/
def Falls (zs : List Int) (q : List Nat) : Prop := q.Pairwise fun a b => zs.getD b 0 ≤ zs.getD a 0
theorem takeWhile_snoc_neg {α : Type} {p : α → Bool} {y : α} (h : p y = false) : ∀ l : List α, (l ++ [y]).takeWhile p = l.takeWhile p
  | [] => by simp [h]
  | x :: l => by
    rw [List.cons_append]
    cases hx : p x with
    | false => simp [hx]
    | true => simp [hx, takeWhile_snoc_neg h l]
theorem takeWhile_all {α : Type} {p : α → Bool} : ∀ l : List α, (∀ x ∈ l, p x = true) → l.takeWhile p = l
  | [], _ => rfl
  | x :: l, h => by
    rw [List.takeWhile_cons_of_pos (h x (by simp)), takeWhile_all l fun y hy => h y (by simp [hy])]
theorem insRev_ref (zs : List Int) (x : Nat) : ∀ q : List Nat, Falls zs q → (insRev (ordLt zs) x q).reverse = refIns zs q.reverse x
  | [], _ => rfl
  | y :: q, h => by
    have h' : Falls zs q := (List.pairwise_cons.1 h).2
    have hy : ∀ z ∈ q, zs.getD z 0 ≤ zs.getD y 0 := (List.pairwise_cons.1 h).1
    by_cases c : zs.getD x 0 < zs.getD y 0
    · have e : ordLt zs x y = true := by simpa [ordLt] using c
      have hneg : decide (zs.getD y 0 ≤ zs.getD x 0) = false := by simpa using c
      simp only [insRev, e, if_true, List.reverse_cons]
      rw [insRev_ref zs x q h']
      unfold refIns
      have hk : refK zs (q.reverse ++ [y]) x = refK zs q.reverse x := by unfold refK; rw [takeWhile_snoc_neg (p := fun o => decide (zs.getD o 0 ≤ zs.getD x 0)) hneg]
      have hle : refK zs q.reverse x ≤ q.reverse.length := by unfold refK; exact (List.takeWhile_prefix _).length_le
      rw [hk, List.take_append_of_le_length hle, List.drop_append_of_le_length hle]
      simp
    · have e : ordLt zs x y = false := by simpa [ordLt] using c
      simp only [insRev, e, Bool.false_eq_true, if_false, List.reverse_cons]
      unfold refIns
      have hall : ∀ z ∈ q.reverse ++ [y], decide (zs.getD z 0 ≤ zs.getD x 0) = true := by
        intro z hz
        simp only [List.mem_append, List.mem_reverse, List.mem_singleton] at hz
        simp only [decide_eq_true_eq]
        rcases hz with hz | rfl
        · have := hy z hz; omega
        · omega
      have hk : refK zs (q.reverse ++ [y]) x = (q.reverse ++ [y]).length := by unfold refK; rw [takeWhile_all _ hall]
      rw [hk, List.take_length, List.drop_length]
      simp
theorem insRev_mem {lt : Nat → Nat → Bool} {x z : Nat} : ∀ {q : List Nat}, z ∈ insRev lt x q ↔ z = x ∨ z ∈ q
  | [] => by simp [insRev]
  | y :: q => by
    simp only [insRev]
    split
    · simp only [List.mem_cons, insRev_mem (q := q)]
      constructor
      · rintro (h | h | h)
        · exact .inr (.inl h)
        · exact .inl h
        · exact .inr (.inr h)
      · rintro (h | h | h)
        · exact .inr (.inl h)
        · exact .inl h
        · exact .inr (.inr h)
    · simp
theorem insRev_falls (zs : List Int) (x : Nat) : ∀ q : List Nat, Falls zs q → Falls zs (insRev (ordLt zs) x q)
  | [], _ => by simp [insRev, Falls]
  | y :: q, h => by
    have h' : Falls zs q := (List.pairwise_cons.1 h).2
    have hy : ∀ z ∈ q, zs.getD z 0 ≤ zs.getD y 0 := (List.pairwise_cons.1 h).1
    by_cases c : zs.getD x 0 < zs.getD y 0
    · have e : ordLt zs x y = true := by simpa [ordLt] using c
      simp only [insRev, e, if_true]
      refine List.pairwise_cons.2 ⟨fun z hz => ?_, insRev_falls zs x q h'⟩
      rcases insRev_mem.1 hz with rfl | hz
      · omega
      · exact hy z hz
    · have e : ordLt zs x y = false := by simpa [ordLt] using c
      simp only [insRev, e, Bool.false_eq_true, if_false]
      refine List.pairwise_cons.2 ⟨fun z hz => ?_, h⟩
      simp only [List.mem_cons] at hz
      rcases hz with rfl | hz
      · omega
      · have := hy z hz; omega
theorem fold_ref (zs : List Int) : ∀ (l q : List Nat), Falls zs q → Falls zs (l.foldl (fun q x => insRev (ordLt zs) x q) q) ∧ (l.foldl (fun q x => insRev (ordLt zs) x q) q).reverse = l.foldl (refIns zs) q.reverse
  | [], q, h => ⟨h, rfl⟩
  | x :: l, q, h => by
    have := fold_ref zs l _ (insRev_falls zs x q h)
    simp only [List.foldl_cons]
    rw [← insRev_ref zs x q h]
    exact this
theorem ordL_ref (zs : List Int) : ordL zs = refOrd zs zs.length := by
  unfold ordL insAll refOrd
  rw [(fold_ref zs (List.range zs.length) [] List.Pairwise.nil).2]; rfl
/-- The order: each place once, rising, equal ones as they stood. -/
theorem insRev_perm {lt : Nat → Nat → Bool} (x : Nat) : ∀ q : List Nat, (insRev lt x q).Perm (x :: q)
  | [] => List.Perm.refl _
  | y :: q => by
    simp only [insRev]
    split
    · exact ((insRev_perm x q).cons y).trans (List.Perm.swap x y q)
    · exact List.Perm.refl _
theorem fold_perm {lt : Nat → Nat → Bool} : ∀ (l q : List Nat), (l.foldl (fun q x => insRev lt x q) q).Perm (l ++ q)
  | [], q => List.Perm.refl _
  | x :: l, q => by
    simp only [List.foldl_cons]
    exact (fold_perm l _).trans (((insRev_perm x q).append_left l).trans List.perm_middle)
theorem ordL_perm (zs : List Int) : (ordL zs).Perm (List.range zs.length) := by
  unfold ordL insAll
  exact (List.reverse_perm _).trans (by simpa using fold_perm (lt := ordLt zs) (List.range zs.length) [])
/-- In a row that falls: greater ahead; of equal ones the later ahead. -/
def FallsS (zs : List Int) (q : List Nat) : Prop := q.Pairwise fun a b => zs.getD b 0 < zs.getD a 0 ∨ zs.getD b 0 = zs.getD a 0 ∧ b < a
theorem insRev_fallsS (zs : List Int) (x : Nat) : ∀ q : List Nat, FallsS zs q → (∀ z ∈ q, z < x) → FallsS zs (insRev (ordLt zs) x q)
  | [], _, _ => by simp [insRev, FallsS]
  | y :: q, h, hx => by
    have h' : FallsS zs q := (List.pairwise_cons.1 h).2
    have hy := (List.pairwise_cons.1 h).1
    have hxy := hx y (by simp)
    by_cases c : zs.getD x 0 < zs.getD y 0
    · have e : ordLt zs x y = true := by simpa [ordLt] using c
      simp only [insRev, e, if_true]
      refine List.pairwise_cons.2 ⟨fun z hz => ?_, insRev_fallsS zs x q h' fun z hz => hx z (by simp [hz])⟩
      rcases insRev_mem.1 hz with rfl | hz
      · exact .inl c
      · exact hy z hz
    · have e : ordLt zs x y = false := by simpa [ordLt] using c
      simp only [insRev, e, Bool.false_eq_true, if_false]
      refine List.pairwise_cons.2 ⟨fun z hz => ?_, h⟩
      simp only [List.mem_cons] at hz
      rcases hz with rfl | hz
      · omega
      · have := hy z hz; have := hx z (by simp [hz]); omega
theorem fold_fallsS (zs : List Int) : ∀ (n : Nat), FallsS zs ((List.range n).foldl (fun q x => insRev (ordLt zs) x q) []) ∧ ∀ z ∈ (List.range n).foldl (fun q x => insRev (ordLt zs) x q) [], z < n
  | 0 => ⟨List.Pairwise.nil, by simp⟩
  | n + 1 => by
    obtain ⟨h1, h2⟩ := fold_fallsS zs n
    rw [List.range_succ, List.foldl_append]
    simp only [List.foldl_cons, List.foldl_nil]
    refine ⟨insRev_fallsS zs n _ h1 h2, fun z hz => ?_⟩
    rcases insRev_mem.1 hz with rfl | hz
    · omega
    · have := h2 z hz; omega
theorem ordL_rises (zs : List Int) : (ordL zs).Pairwise fun a b => zs.getD a 0 < zs.getD b 0 ∨ zs.getD a 0 = zs.getD b 0 ∧ a < b := by
  unfold ordL insAll
  exact List.pairwise_reverse.2 (fold_fallsS zs zs.length).1
end Go.Dn
namespace Go.Dn.Field
open Go.Proofs
theorem same_loop (fa fb : Bool) (xs ys : List Int) (hl : xs.length = ys.length) (hb : xs.length ≤ 1000000) : ∀ (d i : Nat), i + d = xs.length →
    rk Try.prog pol (Task.at_ 10 0 [false, true, false, true, true] (sv 26 [(0, V.d (D.l fa (ints .i64 xs))), (1, V.d (D.l fb (ints .i64 ys))), (5, V.d (D.i .i64 (i : Int)))]) [] []) = some (.d (.b (decide (xs.drop i = ys.drop i))), []) := by
  intro d
  induction d with
  | zero =>
    intro i hi
    rw [f10_at43]
    have h1 : xs.drop i = [] := List.drop_eq_nil_of_le (by omega)
    have h2 : ys.drop i = [] := List.drop_eq_nil_of_le (by omega)
    have h3 : ¬ ((i : Int) < (xs.length : Int)) := by omega
    simp [h1, h2, h3]
  | succ d ih =>
    intro i hi
    rw [f10_at43]
    have hx : i < xs.length := by omega
    have hy : i < ys.length := by omega
    have h3 : ((i : Int) < (xs.length : Int)) := by omega
    have gx := List.getElem?_eq_getElem hx
    have gy := List.getElem?_eq_getElem hy
    have hw : IntKind.i64.wrap ((i : Int) + 1) = (i : Int) + 1 := by rw [wrap_i64] <;> omega
    have ih' := ih (i + 1) (by omega)
    rw [Int.natCast_add, Int.natCast_one] at ih'
    have key : decide (xs.drop i = ys.drop i) = if xs[i] = ys[i] then decide (xs.drop (i + 1) = ys.drop (i + 1)) else false := by
      rw [List.drop_eq_getElem_cons hx, List.drop_eq_getElem_cons hy]
      by_cases e : xs[i] = ys[i]
      · rw [if_pos e, e]; simp only [List.cons.injEq, true_and]
      · rw [if_neg e]; exact decide_eq_false fun h => e (List.cons.inj h).1
    rw [key]
    by_cases e : xs[i] = ys[i]
    · simp [h3, gx, gy, hw, ih', e]
    · simp [h3, gx, gy, e]
theorem same_run (fa fb : Bool) (xs ys : List Int) (hb : xs.length ≤ 1000000) :
    rk Try.prog pol (Task.call 10 [V.d (D.l fa (ints .i64 xs)), V.d (D.l fb (ints .i64 ys))] []) = some (.d (.b (decide (xs = ys))), []) := by
  rw [f10]
  by_cases hl : xs.length = ys.length
  · have := same_loop fa fb xs ys hl hb xs.length 0 (by omega)
    rw [Int.natCast_zero] at this
    simp [hl, this]
  · have : xs ≠ ys := fun e => hl (by rw [e])
    have h2 : ¬ ((xs.length : Int) = (ys.length : Int)) := by omega
    simp [h2, this]
end Go.Dn.Field
namespace Go.Dn.Field
open Go.Proofs
def nats (l : List Nat) : List D := ints .i64 (l.map fun n : Nat => (n : Int))
@[simp] theorem len_nats (l : List Nat) : (nats l).length = l.length := by simp [nats]
@[simp] theorem get_nats (l : List Nat) (i : Nat) : (nats l)[i]? = l[i]?.map fun n : Nat => .i .i64 (n : Int) := by
  simp [nats, Function.comp_def]
@[simp] theorem head_nats (l : List Nat) : headOk 1 (nats l) = true := by simp [nats]
@[simp] theorem oneAll_nats (l : List Nat) : oneAll (nats l) = true := by simp [nats]
theorem take_nats (l : List Nat) (n : Nat) : (nats l).take n = nats (l.take n) := by simp [nats, take_ints, List.map_take]
theorem drop_nats (l : List Nat) (n : Nat) : (nats l).drop n = nats (l.drop n) := by simp [nats, drop_ints, List.map_drop]
theorem snoc_nats (l : List Nat) (n : Nat) : nats l ++ [.i .i64 (n : Int)] = nats (l ++ [n]) := by simp [nats, ints]
theorem app_nats (l m : List Nat) : nats l ++ nats m = nats (l ++ m) := by simp [nats, ints]
theorem nats_nil : nats [] = [] := rfl
theorem refIns_length (zs : List Int) (out : List Nat) (i : Nat) : (refIns zs out i).length = out.length + 1 := by
  simp [refIns]; omega
theorem refIns_lt {zs : List Int} {out : List Nat} {i n : Nat} (h : ∀ o ∈ out, o < n) (hi : i < n) : ∀ o ∈ refIns zs out i, o < n := by
  intro o ho
  simp only [refIns, List.append_assoc, List.mem_append, List.mem_singleton] at ho
  rcases ho with ho | rfl | ho
  · exact h o (List.mem_of_mem_take ho)
  · exact hi
  · exact h o (List.mem_of_mem_drop ho)
theorem tw_len {α : Type} {p : α → Bool} : ∀ (l : List α) (k : Nat), k ≤ (l.takeWhile p).length → (h : k < l.length) → (p l[k] = true → k + 1 ≤ (l.takeWhile p).length) ∧ (p l[k] = false → k = (l.takeWhile p).length)
  | [], k, _, h => by simp at h
  | x :: l, 0, _, h => by
    simp only [List.getElem_cons_zero]
    refine ⟨fun e => by rw [List.takeWhile_cons_of_pos e]; simp, fun e => by rw [List.takeWhile_cons_of_neg (by simp [e])]; rfl⟩
  | x :: l, k + 1, hk, h => by
    simp only [List.getElem_cons_succ]
    cases hx : p x with
    | false => rw [List.takeWhile_cons_of_neg (by simp [hx])] at hk; simp at hk
    | true =>
      rw [List.takeWhile_cons_of_pos hx] at hk ⊢
      have := tw_len l k (by simpa using hk) (by simpa using h)
      exact ⟨fun e => by simpa using this.1 e, fun e => by simpa using this.2 e⟩
theorem inner (b_0 b_2 : Bool) (zs : List Int) (out : List Nat) (i : Nat) (hi : i < zs.length) (hb : zs.length ≤ 1000000) (hlen : out.length ≤ i) (hout : ∀ o ∈ out, o < zs.length) : ∀ (d k : Nat), k + d = out.length → k ≤ refK zs out i →
    rk Try.prog pol (Task.at_ 12 0 [false, false, true, false, false, true, false, false, true, false, true, true]
      (sv 45 [(0, V.d (D.l b_0 (ints .i64 zs))), (3, V.d (D.l b_2 (nats out))), (4, V.d (D.i .i64 (i : Int))), (5, V.d (D.i .i64 (k : Int)))]) [(3, 1)] []) =
    rk Try.prog pol (Task.at_ 12 0 [false, true, false, true, true] (sv 45 [(0, V.d (D.l b_0 (ints .i64 zs))), (3, V.d (D.l false (nats (refIns zs out i)))), (4, V.d (D.i .i64 ((i : Int) + 1)))]) [(3, 1)] []) := by
  have hstop : ∀ k : Nat, k = refK zs out i → k ≤ out.length → rk Try.prog pol (Task.at_ 12 0 [true, false, false, false, false, true, false, false, true, false, false, true, false, true, true]
      (sv 45 [(0, V.d (D.l b_0 (ints .i64 zs))), (3, V.d (D.l b_2 (nats out))), (4, V.d (D.i .i64 (i : Int))), (5, V.d (D.i .i64 (k : Int))), (29, V.d (D.b false))]) [(3, 1)] []) =
      rk Try.prog pol (Task.at_ 12 0 [false, true, false, true, true] (sv 45 [(0, V.d (D.l b_0 (ints .i64 zs))), (3, V.d (D.l false (nats (refIns zs out i)))), (4, V.d (D.i .i64 ((i : Int) + 1)))]) [(3, 1)] []) := by
    intro k hk hle
    rw [f12_at49739]
    have hw : IntKind.i64.wrap ((i : Int) + 1) = (i : Int) + 1 := by rw [wrap_i64] <;> omega
    have e1 : List.take (out.length - k) (List.drop k (nats out)) = nats (out.drop k) := by
      rw [drop_nats, List.take_of_length_le (by simp)]
    have e2 : nats (List.take k out) ++ D.i .i64 (i : Int) :: nats (out.drop k) = nats (refIns zs out i) := by
      unfold refIns; rw [← hk, ← app_nats, ← snoc_nats]; simp
    have c1 : k ≤ 4294967296 := by omega
    have c2 : k ≤ 4294967295 := by omega
    have c3 : headOk 1 (nats (List.take k out) ++ [D.i .i64 (i : Int)]) = true := by rw [snoc_nats]; simp
    have c4 : k + 1 + (out.length - k) ≤ 4294967296 := by omega
    simp [hw, take_nats, e1, hle, e2, c1, c2, c3, c4]
  intro d
  induction d with
  | zero =>
    intro k hk hle
    rw [f12_at4683]
    have h3 : ¬ ((k : Int) < (out.length : Int)) := by omega
    have hkk : k = refK zs out i := by
      have : refK zs out i ≤ out.length := by unfold refK; exact (List.takeWhile_prefix _).length_le
      omega
    simp [h3, hstop k hkk (by omega)]
  | succ d ih =>
    intro k hk hle
    rw [f12_at4683]
    have hx : k < out.length := by omega
    have h3 : ((k : Int) < (out.length : Int)) := by omega
    have gx := List.getElem?_eq_getElem hx
    have ho := hout _ (List.getElem_mem hx)
    have go := List.getElem?_eq_getElem ho
    have gi := List.getElem?_eq_getElem hi
    by_cases hc : zs[out[k]] ≤ zs[i]
    · have hnext : k + 1 ≤ refK zs out i := by
        refine (tw_len out k hle hx).1 ?_
        simp [List.getD_eq_getElem?_getD, go, gi, hc]
      have hw : IntKind.i64.wrap ((k : Int) + 1) = (k : Int) + 1 := by rw [wrap_i64] <;> omega
      have ih' := ih (k + 1) (by omega) hnext
      rw [Int.natCast_add, Int.natCast_one] at ih'
      simp [h3, gx, go, gi, hc, f12_at49739, hw, ih']
    · have hkk : k = refK zs out i := by
        refine (tw_len out k hle hx).2 ?_
        simp [List.getD_eq_getElem?_getD, go, gi]; omega
      simp [h3, gx, go, gi, hc, hstop k hkk (by omega)]
theorem outer (b_0 : Bool) (zs : List Int) (hb : zs.length ≤ 1000000) : ∀ (d i : Nat) (b_2 : Bool) (out : List Nat), i + d = zs.length → out.length = i → (∀ o ∈ out, o < zs.length) →
    ∃ b, rk Try.prog pol (Task.at_ 12 0 [false, true, false, true, true] (sv 45 [(0, V.d (D.l b_0 (ints .i64 zs))), (3, V.d (D.l b_2 (nats out))), (4, V.d (D.i .i64 (i : Int)))]) [(3, 1)] []) =
      some (.d (.l b (nats ((List.range' i d).foldl (refIns zs) out))), []) := by
  intro d
  induction d with
  | zero =>
    intro i b_2 out hi ho hlt
    refine ⟨b_2, ?_⟩
    rw [f12_at43]
    have h3 : ¬ ((i : Int) < (zs.length : Int)) := by omega
    simp [h3]
  | succ d ih =>
    intro i b_2 out hi ho hlt
    obtain ⟨b, hb'⟩ := ih (i + 1) false (refIns zs out i) (by omega) (by rw [refIns_length, ho]) (refIns_lt hlt (by omega))
    refine ⟨b, ?_⟩
    rw [f12_at43]
    have h3 : ((i : Int) < (zs.length : Int)) := by omega
    have hin := inner b_0 b_2 zs out i (by omega) hb (by omega) hlt out.length 0 (by omega) (by omega)
    rw [Int.natCast_add, Int.natCast_one] at hb'
    rw [Int.natCast_zero] at hin
    simp [h3, hin, hb', List.range'_succ]
theorem refOrder_run (fa : Bool) (zs : List Int) (hb : zs.length ≤ 1000000) : ∃ b, rk Try.prog pol (Task.call 12 [V.d (D.l fa (ints .i64 zs))] []) = some (.d (.l b (nats (refOrd zs zs.length))), []) := by
  obtain ⟨b, h⟩ := outer fa zs hb zs.length 0 true [] (by omega) rfl (by simp)
  refine ⟨b, ?_⟩
  rw [f12]
  rw [Int.natCast_zero, nats_nil] at h
  simp [h, refOrd, List.range_eq_range']
end Go.Dn.Field
namespace Go.Dn.Field
open Go.Proofs
/-- A field, as it is asked: what else it holds is plain. -/
structure Fd where
  has : Bool
  id : Int
  name : List UInt8
  r2 : D
  r3 : D
  r5 : D
  r6 : D
  r7 : D
  r8 : D
  r9 : D
  r10 : D
def Fd.d (f : Fd) : D := .g [.b f.has, .i .i64 f.id, f.r2, f.r3, .s f.name, f.r5, f.r6, f.r7, f.r8, f.r9, f.r10]
def Fd.ok (f : Fd) : Prop := (V.d f.r2).one = true ∧ (V.d f.r3).one = true ∧ (V.d f.r5).one = true ∧ (V.d f.r6).one = true ∧ (V.d f.r7).one = true ∧ (V.d f.r8).one = true ∧ (V.d f.r9).one = true ∧ (V.d f.r10).one = true
@[simp] theorem Fd.width (f : Fd) : f.d.width = 11 := rfl
@[simp] theorem Fd.cells (f : Fd) : f.d.cells = [.b f.has, .i .i64 f.id, f.r2, f.r3, .s f.name, f.r5, f.r6, f.r7, f.r8, f.r9, f.r10] := rfl
/-- The numbers, or why there are none. -/
def idsGo (last : Int) (done : List (Int × List UInt8)) : List Fd → List Int × Int
  | [] => (done.map (·.1), 0)
  | f :: fs =>
    if f.has = true ∧ (f.id < 1 ∨ 32767 < f.id) then ([], 5) else
    let id := if f.has = true then f.id else last - 1
    if (done.any fun p => p.1 == id || p.2 == f.name) = true then ([], 8) else
    idsGo (if f.has = true then last else last - 1) (done ++ [(id, f.name)]) fs
/-- Both answers. -/
def Two (r : List Int × Int) (o : Option Out) : Prop := ∃ b, o = some (.t [.d (.l b (ints .i64 r.1)), .d (.i .i64 r.2)], [])
theorem refInner (L : List Fd) (b_0 : Bool) (hL : L.length ≤ 1000000) (i : Nat) (f : Fd) (hf : L[i]? = some f) (last id : Int) (done : List (Int × List UInt8)) (hd : done.length = i)
    (hn : ∀ (k : Nat) (p : Int × List UInt8), done[k]? = some p → (L[k]?.map Fd.name) = some p.2) (r : List Int × Int) (hr : (done.any fun p => p.1 == id || p.2 == f.name) = true → r = ([], 8))
    (hnext : (done.any fun p => p.1 == id || p.2 == f.name) = false → ∀ b, Two r (rk Try.prog pol (Task.at_ 9 0 [false, true, false, true, true, true]
      (sv 73 [(0, V.d (D.l b_0 (L.map Fd.d))), (4, V.d (D.l b (ints .i64 (done.map (·.1) ++ [id])))), (5, V.d (D.i .i64 last)), (6, V.d (D.i .i64 ((i : Int) + 1)))]) [(4, 1)] []))) :
    ∀ (d k : Nat) (b_2 : Bool), k + d = i → ((done.take k).any fun p => p.1 == id || p.2 == f.name) = false → Two r (rk Try.prog pol (Task.at_ 9 0 [false, true, false, true, true, true, false, false, true, false, false, true, false, true, true, true]
      (sv 73 [(0, V.d (D.l b_0 (L.map Fd.d))), (4, V.d (D.l b_2 (ints .i64 (done.map (·.1))))), (5, V.d (D.i .i64 last)), (6, V.d (D.i .i64 (i : Int))), (7, V.d (D.i .i64 id)), (8, V.d (D.i .i64 (k : Int)))]) [(4, 1)] [])) := by
  have hil : i < L.length := (List.getElem?_eq_some_iff.1 hf).1
  intro d
  induction d with
  | zero =>
    intro k b_2 hk hno
    have hki : k = i := by omega
    subst hki
    rw [List.take_of_length_le (by omega)] at hno
    obtain ⟨b, hb⟩ := hnext hno false
    refine ⟨b, ?_⟩
    rw [f9_at89239]
    have h3 : ¬ ((k : Int) < (k : Int)) := by omega
    have hw : IntKind.i64.wrap ((k : Int) + 1) = (k : Int) + 1 := by rw [wrap_i64] <;> omega
    have hl : done.length ≤ 4294967295 := by omega
    have e1 : ints .i64 (done.map (·.1)) ++ [D.i .i64 id] = ints .i64 (done.map (·.1) ++ [id]) := ints_snoc _ _ _
    simp [h3, hw, hl, e1, hb]
  | succ d ih =>
    intro k b_2 hk hno
    have hkd : k < done.length := by omega
    have gk := List.getElem?_eq_getElem hkd
    obtain ⟨g, hg, hgn⟩ : ∃ g, L[k]? = some g ∧ g.name = done[k].2 := by
      have := hn k _ gk
      obtain ⟨g, h1, h2⟩ := Option.map_eq_some_iff.1 this
      exact ⟨g, h1, h2⟩
    have h3 : ((k : Int) < (i : Int)) := by omega
    have hw : IntKind.i64.wrap ((k : Int) + 1) = (k : Int) + 1 := by rw [wrap_i64] <;> omega
    have htake : (done.take (k + 1)).any (fun p => p.1 == id || p.2 == f.name) = (done[k].1 == id || done[k].2 == f.name) := by
      rw [List.take_add_one, gk, List.any_append, hno]; simp
    have hbad : (done[k].1 == id || done[k].2 == f.name) = true → r = ([], 8) := fun h => hr (List.any_eq_true.2 ⟨_, List.getElem_mem hkd, h⟩)
    rw [f9_at89239]
    by_cases e1 : done[k].1 = id
    · have := hbad (by simp [e1])
      subst this
      refine ⟨true, ?_⟩
      simp [h3, gk, e1, f9_at3300503, ints]
    · by_cases e2 : done[k].2 = f.name
      · have := hbad (by simp [e2])
        subst this
        refine ⟨true, ?_⟩
        simp [h3, gk, e1, hg, hf, hgn, e2, f9_at3300503, ints]
      · obtain ⟨b, hb⟩ := ih (k + 1) b_2 (by omega) (by rw [htake]; simp [e1, e2])
        refine ⟨b, ?_⟩
        rw [Int.natCast_add, Int.natCast_one] at hb
        simp [h3, gk, e1, hg, hf, hgn, e2, f9_at3300503, hw, hb]
/-- What has been done so far fits the fields. -/
def Names (L : List Fd) (done : List (Int × List UInt8)) : Prop := ∀ (k : Nat) (p : Int × List UInt8), done[k]? = some p → (L[k]?.map Fd.name) = some p.2
theorem Names.snoc {L : List Fd} {done : List (Int × List UInt8)} (h : Names L done) {f : Fd} (hf : L[done.length]? = some f) (id : Int) : Names L (done ++ [(id, f.name)]) := by
  intro k p hk
  rcases Nat.lt_or_ge k done.length with hl | hl
  · rw [List.getElem?_append_left hl] at hk; exact h k p hk
  · rw [List.getElem?_append_right hl] at hk
    have : k - done.length = 0 := by
      rcases Nat.eq_zero_or_pos (k - done.length) with h0 | h0
      · exact h0
      · rw [List.getElem?_eq_none (by simp; omega)] at hk; cases hk
    have hkd : k = done.length := by omega
    subst hkd
    simp at hk; subst hk
    simp [hf]
theorem refIDs_loop (L : List Fd) (b_0 : Bool) (hL : L.length ≤ 1000000) : ∀ (fs : List Fd) (last : Int) (done : List (Int × List UInt8)) (b : Bool), L.drop done.length = fs → Names L done → -(done.length : Int) ≤ last → last ≤ 0 →
    Two (idsGo last done fs) (rk Try.prog pol (Task.at_ 9 0 [false, true, false, true, true, true]
      (sv 73 [(0, V.d (D.l b_0 (L.map Fd.d))), (4, V.d (D.l b (ints .i64 (done.map (·.1))))), (5, V.d (D.i .i64 last)), (6, V.d (D.i .i64 (done.length : Int)))]) [(4, 1)] []))
  | [], last, done, b, hd, hn, h1, h2 => by
    refine ⟨b, ?_⟩
    rw [f9_at87]
    have hle : L.length ≤ done.length := List.drop_eq_nil_iff.1 hd
    have h3 : ¬ ((done.length : Int) < (L.length : Int)) := by omega
    simp [h3, idsGo]
  | f :: fs, last, done, b, hd, hn, h1, h2 => by
    have hlt : done.length < L.length := by
      rcases Nat.lt_or_ge done.length L.length with h | h
      · exact h
      · rw [List.drop_eq_nil_of_le h] at hd; cases hd
    have hf : L[done.length]? = some f := by
      have := congrArg (·[0]?) hd
      simpa using this
    have hd' : L.drop (done.length + 1) = fs := by
      have := congrArg (·.drop 1) hd
      simpa [List.drop_drop] using this
    have h3 : ((done.length : Int) < (L.length : Int)) := by omega
    have hw1 : IntKind.i64.wrap (last - 1) = last - 1 := by rw [wrap_i64] <;> omega
    have hw2 : IntKind.i64.wrap last = last := by rw [wrap_i64] <;> omega
    have step : ∀ (id last' : Int), last' = (if f.has = true then last else last - 1) → id = (if f.has = true then f.id else last - 1) → ¬ (f.has = true ∧ (f.id < 1 ∨ 32767 < f.id)) →
        Two (idsGo last done (f :: fs)) (rk Try.prog pol (Task.at_ 9 0 [false, true, false, true, true, true, false, false, true, false, false, true, false, true, true, true]
      (sv 73 [(0, V.d (D.l b_0 (L.map Fd.d))), (4, V.d (D.l b (ints .i64 (done.map (·.1))))), (5, V.d (D.i .i64 last')), (6, V.d (D.i .i64 (done.length : Int))), (7, V.d (D.i .i64 id)), (8, V.d (D.i .i64 ((0 : Nat) : Int)))]) [(4, 1)] [])) := by
      intro id last' hlast hid hok
      refine refInner L b_0 hL done.length f hf last' id done rfl hn _ (fun hany => ?_) (fun hany b' => ?_) done.length 0 b (by omega) (by simp)
      · simp only [idsGo, if_neg hok, ← hid, hany, if_true]
      · have := refIDs_loop L b_0 hL fs last' (done ++ [(id, f.name)]) b' (by simpa using hd') (hn.snoc hf id) (by simp; rw [hlast]; split <;> omega) (by rw [hlast]; split <;> omega)
        simp only [List.map_append, List.map_cons, List.map_nil, List.length_append, List.length_cons, List.length_nil, Nat.zero_add, Int.natCast_add, Int.natCast_one] at this
        simp only [idsGo, if_neg hok, ← hid, hany, Bool.false_eq_true, if_false, ← hlast]
        exact this
    rw [f9_at87]
    cases hh : f.has with
    | true =>
      by_cases c1 : f.id < 1
      · have : idsGo last done (f :: fs) = ([], 5) := by simp [idsGo, hh, c1]
        rw [this]
        refine ⟨true, ?_⟩
        simp [h3, hf, hh, c1, f9_at437399, ints]
      · by_cases c2 : 32767 < f.id
        · have : idsGo last done (f :: fs) = ([], 5) := by simp [idsGo, hh, c2]
          rw [this]
          refine ⟨true, ?_⟩
          simp [h3, hf, hh, c1, c2, f9_at437399, ints]
        · obtain ⟨b', hb'⟩ := step f.id last (by simp [hh]) (by simp [hh]) (by simp [c1, c2])
          refine ⟨b', ?_⟩
          rw [Int.natCast_zero] at hb'
          simp [h3, hf, hh, c1, c2, f9_at437399, f9_at15511, hw1, hw2, hb']
    | false =>
      obtain ⟨b', hb'⟩ := step (last - 1) (last - 1) (by simp [hh]) (by simp [hh]) (by simp [hh])
      refine ⟨b', ?_⟩
      rw [Int.natCast_zero] at hb'
      simp [h3, hf, hh, f9_at15511, hw1, hb']
theorem refIDs_run (fa : Bool) (L : List Fd) (hL : L.length ≤ 1000000) : Two (idsGo 0 [] L) (rk Try.prog pol (Task.call 9 [V.d (D.l fa (L.map Fd.d))] [])) := by
  obtain ⟨b, h⟩ := refIDs_loop L fa hL L 0 [] true (by simp) (fun k p h => by simp at h) (by simp) (by omega)
  refine ⟨b, ?_⟩
  rw [f9]
  simpa [ints] using h
end Go.Dn.Field
namespace Go.Dn.Field
open Go.Proofs
def numM (done : List (Int × List UInt8)) : List (D × D) := done.map fun p => (.i .i64 p.1, .b true)
def nameM (done : List (Int × List UInt8)) : List (D × D) := done.map fun p => (.s p.2, .b true)
theorem find_num (id : Int) : ∀ done : List (Int × List UInt8), mfind (.i .i64 id) (numM done) = some (if (done.any fun p => p.1 == id) = true then some (.b true) else none)
  | [] => rfl
  | p :: done => by
    have := find_num id done
    simp only [numM] at this
    simp only [numM, List.map_cons, mfind, eqKey, if_true, List.any_cons]
    by_cases e : id = p.1
    · subst e; simp
    · have e' : (id == p.1) = false := by simpa using e
      have e2 : (p.1 == id) = false := by simpa using fun h => e h.symm
      simp only [e', e2, Bool.false_or]; exact this
theorem find_name (n : List UInt8) : ∀ done : List (Int × List UInt8), mfind (.s n) (nameM done) = some (if (done.any fun p => p.2 == n) = true then some (.b true) else none)
  | [] => rfl
  | p :: done => by
    have := find_name n done
    simp only [nameM] at this
    simp only [nameM, List.map_cons, mfind, eqKey, List.any_cons]
    by_cases e : n = p.2
    · subst e; simp
    · have e' : (n == p.2) = false := by simpa using e
      have e2 : (p.2 == n) = false := by simpa using fun h => e h.symm
      simp only [e', e2, Bool.false_or]; exact this
theorem put_num (id : Int) (n : List UInt8) : ∀ done : List (Int × List UInt8), (done.any fun p => p.1 == id) = false → mput (.i .i64 id) (.b true) (numM done) = numM (done ++ [(id, n)])
  | [], _ => rfl
  | p :: done, h => by
    simp only [List.any_cons, Bool.or_eq_false_iff] at h
    have := put_num id n done h.2
    simp only [numM] at this
    have e : (id == p.1) = false := by
      have := h.1
      simp at this ⊢; exact fun h => this h.symm
    simp only [numM, List.map_cons, mput, eqKey, if_true, e, List.cons_append]
    rw [if_neg (by simp), this]
theorem put_name (id : Int) (n : List UInt8) : ∀ done : List (Int × List UInt8), (done.any fun p => p.2 == n) = false → mput (.s n) (.b true) (nameM done) = nameM (done ++ [(id, n)])
  | [], _ => rfl
  | p :: done, h => by
    simp only [List.any_cons, Bool.or_eq_false_iff] at h
    have := put_name id n done h.2
    simp only [nameM] at this
    have e : (n == p.2) = false := by
      have := h.1
      simp at this ⊢; exact fun h => this h.symm
    simp only [nameM, List.map_cons, mput, eqKey, e, List.cons_append]
    rw [if_neg (by simp), this]
theorem any_or (id : Int) (n : List UInt8) (done : List (Int × List UInt8)) : (done.any fun p => p.1 == id || p.2 == n) = ((done.any fun p => p.1 == id) || (done.any fun p => p.2 == n)) := by
  induction done with
  | nil => rfl
  | cons p l ih => simp only [List.any_cons, ih]; cases p.1 == id <;> cases p.2 == n <;> simp
theorem isSome_find_num (id : Int) (done : List (Int × List UInt8)) : (mfind (.i .i64 id) (numM done)).isSome = true := by rw [find_num]; rfl
theorem isSome_find_name (n : List UInt8) (done : List (Int × List UInt8)) : (mfind (.s n) (nameM done)).isSome = true := by rw [find_name]; rfl
theorem ids_loop (L : List Fd) (b_0 : Bool) (hL : L.length ≤ 1000000) (hok : ∀ f ∈ L, f.ok) : ∀ (fs : List Fd) (last : Int) (done : List (Int × List UInt8)) (b : Bool), L.drop done.length = fs → -(done.length : Int) ≤ last → last ≤ 0 →
    Two (idsGo last done fs) (rk Try.prog pol (Task.at_ 8 0 [false, true, false, true, true, true]
      (sv 58 [(2, V.d (D.l b (ints .i64 (done.map (·.1))))), (4, V.mp 0), (5, V.mp 1), (6, V.d (D.i .i64 last)), (12, V.d (D.l b_0 (L.map Fd.d))), (13, V.d (D.i .i64 (L.length : Int))), (14, V.d (D.i .i64 (done.length : Int)))])
      [(2, 1)] [Ob.map (nameM done), Ob.map (numM done)]))
  | [], last, done, b, hd, h1, h2 => by
    refine ⟨b, ?_⟩
    rw [f8_at87]
    have hle : L.length ≤ done.length := List.drop_eq_nil_iff.1 hd
    have h3 : ¬ ((done.length : Int) < (L.length : Int)) := by omega
    simp [h3, idsGo]
  | f :: fs, last, done, b, hd, h1, h2 => by
    have hlt : done.length < L.length := by
      rcases Nat.lt_or_ge done.length L.length with h | h
      · exact h
      · rw [List.drop_eq_nil_of_le h] at hd; cases hd
    have hf : L[done.length]? = some f := by
      have := congrArg (·[0]?) hd
      simpa using this
    have hd' : L.drop (done.length + 1) = fs := by
      have := congrArg (·.drop 1) hd
      simpa [List.drop_drop] using this
    obtain ⟨o2, o3, o5, o6, o7, o8, o9, o10⟩ := hok f (List.mem_of_getElem? hf)
    have h3 : ((done.length : Int) < (L.length : Int)) := by omega
    have hw1 : IntKind.i64.wrap (last - 1) = last - 1 := by rw [wrap_i64] <;> omega
    have hw3 : IntKind.i64.wrap ((done.length : Int) + 1) = (done.length : Int) + 1 := by rw [wrap_i64] <;> omega
    have hl : done.length ≤ 4294967295 := by omega
    have step : ∀ (id last' : Int), last' = (if f.has = true then last else last - 1) → id = (if f.has = true then f.id else last - 1) → ¬ (f.has = true ∧ (f.id < 1 ∨ 32767 < f.id)) →
        Two (idsGo last done (f :: fs)) (rk Try.prog pol (Task.at_ 8 0 [true, true, true, true, false, false, true, true, false, false, true, false, true, true, true]
  (sv 58
    [(2, V.d (D.l b (ints .i64 (done.map (·.1))))), (4, V.mp 0), (5, V.mp 1), (6, V.d (D.i IntKind.i64 last')), (8, V.p 2 0), (9, V.d (D.i IntKind.i64 id)), (12, V.d (D.l b_0 (L.map Fd.d))), (13, V.d (D.i .i64 (L.length : Int))),
      (14, V.d (D.i IntKind.i64 (done.length : Int)))])
  [(2, 1)] [Ob.cells [V.d (.b f.has), V.d (.i .i64 f.id), V.d f.r2, V.d f.r3, V.d (.s f.name), V.d f.r5, V.d f.r6, V.d f.r7, V.d f.r8, V.d f.r9, V.d f.r10] [], Ob.map (nameM done), Ob.map (numM done)])) := by
      intro id last' hlast hid hok
      rw [f8_at63895]
      cases c1 : done.any fun p => p.1 == id with
      | true =>
        have : idsGo last done (f :: fs) = ([], 8) := by simp only [idsGo, if_neg hok, ← hid, any_or, c1, Bool.true_or, if_true]
        rw [this]
        refine ⟨true, ?_⟩
        simp [find_num, c1, f8_at227735, ints]
      | false =>
        cases c2 : done.any fun p => p.2 == f.name with
        | true =>
          have : idsGo last done (f :: fs) = ([], 8) := by simp only [idsGo, if_neg hok, ← hid, any_or, c1, c2, Bool.or_true, if_true]
          rw [this]
          refine ⟨true, ?_⟩
          simp [find_num, find_name, c1, c2, f8_at227735, ints]
        | false =>
          have := ids_loop L b_0 hL ‹_› fs last' (done ++ [(id, f.name)]) false (by simpa using hd') (by simp; rw [hlast]; split <;> omega) (by rw [hlast]; split <;> omega)
          simp only [List.map_append, List.map_cons, List.map_nil, List.length_append, List.length_cons, List.length_nil, Nat.zero_add, Int.natCast_add, Int.natCast_one] at this
          have e : idsGo last done (f :: fs) = idsGo last' (done ++ [(id, f.name)]) fs := by
            simp only [idsGo, if_neg hok, ← hid, any_or, c1, c2, Bool.or_false, Bool.false_eq_true, if_false, ← hlast]
          rw [e]
          obtain ⟨b', hb'⟩ := this
          refine ⟨b', ?_⟩
          simp [find_num, find_name, c1, c2, f8_at227735, isSome_find_num, isSome_find_name, put_num id f.name done c1, put_name id f.name done c2, ints_snoc, hw3, hl, hb']
    rw [f8_at87]
    cases hh : f.has with
    | true =>
      by_cases c1 : f.id < 1
      · have : idsGo last done (f :: fs) = ([], 5) := by simp [idsGo, hh, c1]
        rw [this]
        refine ⟨true, ?_⟩
        simp [h3, hf, hh, c1, f8_at27031, ints, o2, o3, o5, o6, o7, o8, o9, o10]
      · by_cases c2 : 32767 < f.id
        · have : idsGo last done (f :: fs) = ([], 5) := by simp [idsGo, hh, c2]
          rw [this]
          refine ⟨true, ?_⟩
          simp [h3, hf, hh, c1, c2, f8_at27031, ints, o2, o3, o5, o6, o7, o8, o9, o10]
        · obtain ⟨b', hb'⟩ := step f.id last (by simp [hh]) (by simp [hh]) (by simp [c1, c2])
          refine ⟨b', ?_⟩
          rw [hh] at hb'
          simp [h3, hf, hh, c1, c2, f8_at27031, hw1, hb', o2, o3, o5, o6, o7, o8, o9, o10]
    | false =>
      obtain ⟨b', hb'⟩ := step (last - 1) (last - 1) (by simp [hh]) (by simp [hh]) (by simp [hh])
      refine ⟨b', ?_⟩
      rw [hh] at hb'
      simp [h3, hf, hh, f8_at27031, hw1, hb', o2, o3, o5, o6, o7, o8, o9, o10]
theorem ids_run (fa : Bool) (L : List Fd) (hL : L.length ≤ 1000000) (hok : ∀ f ∈ L, f.ok) : Two (idsGo 0 [] L) (rk Try.prog pol (Task.call 8 [V.d (D.l fa (L.map Fd.d))] [])) := by
  obtain ⟨b, h⟩ := ids_loop L fa hL hok L 0 [] true (by simp) (by simp) (by omega)
  refine ⟨b, ?_⟩
  rw [f8]
  simpa [ints, numM, nameM] using h
end Go.Dn.Field
namespace Go.Dn.Field
open Go.Proofs
theorem nats_ints (l : List Nat) : ints .i64 (l.map fun n : Nat => (n : Int)) = nats l := rfl
theorem order_run (fa : Bool) (zs : List Int) (h : zs.length ≤ 20) : rk Try.prog pol (Task.call 11 [V.d (D.l fa (ints .i64 zs))] []) = some (.d (.l false (nats (ordL zs))), []) := by
  rw [rk_eq]
  have : stepK Try.prog pol (Task.call 11 [V.d (D.l fa (ints .i64 zs))] []) = ob (orderExt [V.d (D.l fa (ints .i64 zs))] []) .ret := rfl
  rw [this]
  simp [orderExt, unInts_of, h, nats_ints]
theorem begun_run : rk Try.prog pol (Task.call 7 [] []) = some (.d (.b true), []) := rk_some.2 ⟨100, by kernel_rfl⟩
theorem idsGo_len : ∀ (fs : List Fd) (last : Int) (done : List (Int × List UInt8)), (idsGo last done fs).1.length ≤ done.length + fs.length
  | [], last, done => by simp [idsGo]
  | f :: fs, last, done => by
    simp only [idsGo]
    by_cases h : f.has = true ∧ (f.id < 1 ∨ 32767 < f.id)
    · rw [if_pos h]; simp
    · rw [if_neg h]
      generalize (if f.has = true then f.id else last - 1) = id
      generalize (if f.has = true then last else last - 1) = last'
      split
      · simp
      · refine Nat.le_trans (idsGo_len fs _ _) ?_
        simp; omega
theorem ordL_len (zs : List Int) : (ordL zs).length = zs.length := by simpa using (ordL_perm zs).length_eq
theorem all_run (fa fb : Bool) (L : List Fd) (zs : List Int) (hL : L.length ≤ 1000000) (hz : zs.length ≤ 1000000) (hok : ∀ f ∈ L, f.ok) : rk Try.prog pol (Task.call 3 [V.d (D.l fa (L.map Fd.d)), V.d (D.l fb (ints .i64 zs))] []) = some (.d (.b true), []) := by
  rw [f3]
  by_cases h1 : (20 : Int) < (L.length : Int)
  · simp [begun_run, h1, f3_at27]
  · by_cases h2 : (20 : Int) < (zs.length : Int)
    · simp [begun_run, h1, h2, f3_at27]
    · obtain ⟨b1, e1⟩ := ids_run fa L hL hok
      obtain ⟨b2, e2⟩ := refIDs_run fa L hL
      have e3 := same_run b1 b2 (idsGo 0 [] L).1 (idsGo 0 [] L).1 (Nat.le_trans (idsGo_len L 0 []) (by simpa using hL))
      have e4 := order_run fb zs (by omega)
      obtain ⟨b5, e5⟩ := refOrder_run fb zs hz
      rw [← ordL_ref] at e5
      have e6 := same_run false b5 ((ordL zs).map fun n : Nat => (n : Int)) ((ordL zs).map fun n : Nat => (n : Int)) (by simpa [ordL_len] using hz)
      rw [nats_ints] at e6
      simp [begun_run, h1, h2, f3_at27, e1, e2, e3, e4, e5, e6]
/-- .. however many there are. -/
theorem all_run' (fa fb : Bool) (L : List Fd) (zs : List Int) (hok : ∀ f ∈ L, f.ok) : rk Try.prog pol (Task.call 3 [V.d (D.l fa (L.map Fd.d)), V.d (D.l fb (ints .i64 zs))] []) = some (.d (.b true), []) := by
  by_cases h1 : (20 : Int) < (L.length : Int)
  · rw [f3]; simp [begun_run, h1, f3_at27]
  · by_cases h2 : (20 : Int) < (zs.length : Int)
    · rw [f3]; simp [begun_run, h1, h2, f3_at27]
    · exact all_run fa fb L zs (by omega) (by omega) hok
end Go.Dn.Field
namespace Go.Dn.Field
open Go.Proofs
/-- Which places were seen. -/
def seenV (o : List Nat) (i : Nat) : List V := (List.range 20).map fun j => V.d (.b (decide (j ∈ o.take i)))
theorem seenV_len (o : List Nat) (i : Nat) : (seenV o i).length = 20 := by simp [seenV]
theorem seenV_get (o : List Nat) (i j : Nat) (h : j < 20) : (seenV o i)[j]? = some (V.d (.b (decide (j ∈ o.take i)))) := by simp [seenV, h]
theorem mem_take_succ (o : List Nat) (i j : Nat) (h : i < o.length) : j ∈ o.take (i + 1) ↔ j ∈ o.take i ∨ j = o[i] := by
  rw [List.take_add_one, List.getElem?_eq_getElem h]
  simp only [Option.toList_some, List.mem_append, List.mem_singleton]
theorem seenV_set (o : List Nat) (i : Nat) (h : i < o.length) : (seenV o i).set o[i] (V.d (.b true)) = seenV o (i + 1) := by
  apply List.ext_getElem?
  intro j
  rcases Nat.lt_or_ge j 20 with hj | hj
  · rw [seenV_get _ _ _ hj, List.getElem?_set]
    by_cases e : o[i] = j
    · subst e
      rw [if_pos rfl, if_pos (by rw [seenV_len]; exact hj)]
      rw [decide_eq_true ((mem_take_succ o i _ h).2 (.inr rfl))]
    · rw [if_neg e, seenV_get _ _ _ hj]
      congr 3
      exact decide_eq_decide.2 (by rw [mem_take_succ o i j h]; exact ⟨.inl, fun h => h.resolve_right fun h => e h.symm⟩)
  · rw [List.getElem?_eq_none (by rw [List.length_set, seenV_len]; exact hj), List.getElem?_eq_none (by rw [seenV_len]; exact hj)]
theorem seenV_at (o : List Nat) (i j : Nat) (h : j < (seenV o i).length) : (seenV o i)[j] = V.d (.b (decide (j ∈ o.take i))) := by
  have := seenV_get o i j (by rw [seenV_len] at h; exact h)
  rw [List.getElem?_eq_getElem h] at this
  exact Option.some.inj this
theorem orders_loop (ids : List Int) (b_0 b_2 : Bool) (hn : ids.length ≤ 20) : ∀ (d i : Nat), i + d = ids.length →
    rk Try.prog pol (Task.at_ 6 0 [false, true, false, true, true, true, true, true, true, true, true] (sv 117 [(3, V.d (D.l b_0 (ints .i64 ids))), (5, V.d (D.l b_2 (nats (ordL ids)))), (6, V.p 0 0), (7, V.d (D.i .i64 (i : Int)))]) [(3, 1)]
      [Ob.cells (seenV (ordL ids) i) []]) = some (.d (.b true), []) := by
  have hlen : (ordL ids).length = ids.length := ordL_len ids
  have hnd : (ordL ids).Nodup := (ordL_perm ids).nodup_iff.2 List.nodup_range
  intro d
  induction d with
  | zero =>
    intro i hi
    rw [f6_at2815]
    have h3 : ¬ ((i : Int) < (ids.length : Int)) := by omega
    simp [h3, hlen]
  | succ d ih =>
    intro i hi
    have hio : i < (ordL ids).length := by omega
    have hx : (ordL ids)[i] < ids.length := by
      have := (ordL_perm ids).mem_iff.1 (List.getElem_mem hio)
      simpa using this
    have gi := List.getElem?_eq_getElem hio
    have gx := List.getElem?_eq_getElem hx
    have hns : (ordL ids)[i] ∉ (ordL ids).take i := by
      intro hm
      obtain ⟨j, hj, e⟩ := List.mem_iff_getElem.1 hm
      simp only [List.length_take] at hj
      rw [List.getElem_take] at e
      exact List.pairwise_iff_getElem.1 hnd j i (by omega) hio (by omega) e
    have h3 : ((i : Int) < (ids.length : Int)) := by omega
    have c0 : ¬ (((ordL ids)[i] : Nat) : Int) < 0 := by omega
    have c1 : ¬ (ids.length : Int) ≤ (((ordL ids)[i] : Nat) : Int) := by omega
    have c2 : (((ordL ids)[i] : Nat) : Int) < 20 := by omega
    have c3 : (ordL ids)[i] < 20 := by omega
    have hs := seenV_get (ordL ids) i (ordL ids)[i] c3
    have hset := seenV_set (ordL ids) i hio
    have hw : IntKind.i64.wrap ((i : Int) + 1) = (i : Int) + 1 := by rw [wrap_i64] <;> omega
    have ih' := ih (i + 1) (by omega)
    rw [Int.natCast_add, Int.natCast_one] at ih'
    have last : rk Try.prog pol (Task.at_ 6 0 [true, true, true, false, false, true, false, false, true, false, true, true, true, true, true, true, true, true]
      (sv 117 [(3, V.d (D.l b_0 (ints .i64 ids))), (5, V.d (D.l b_2 (nats (ordL ids)))), (6, V.p 0 0), (7, V.d (D.i .i64 (i : Int))), (116, V.d (D.b false))]) [(3, 1)] [Ob.cells (seenV (ordL ids) (i + 1)) []]) = some (.d (.b true), []) := by
      rw [f6_at496383]
      simp [hw, ih']
    rw [f6_at2815]
    rcases Nat.eq_zero_or_pos i with hi0 | hi0
    · subst hi0
      rw [Int.natCast_zero] at last h3
      simp [h3, hlen, gi, c0, c1, c2, c3, seenV_at, hns, f6_at201471, seenV_len, hset, last]
    · have hw1 : IntKind.i64.wrap ((i : Int) - 1) = ((i - 1 : Nat) : Int) := by rw [wrap_i64] <;> omega
      have hp : (0 : Int) < (i : Int) := by omega
      have hi1 : i - 1 < (ordL ids).length := by omega
      have hx1 : (ordL ids)[i - 1] < ids.length := by
        have := (ordL_perm ids).mem_iff.1 (List.getElem_mem hi1)
        simpa using this
      have gi1 := List.getElem?_eq_getElem hi1
      have gx1 := List.getElem?_eq_getElem hx1
      have hr := List.pairwise_iff_getElem.1 (ordL_rises ids) (i - 1) i hi1 hio (by omega)
      simp only [List.getD_eq_getElem?_getD, gx, gx1, Option.getD_some] at hr
      rcases hr with hr | ⟨hr, hr2⟩
      · have r1 : ¬ ids[(ordL ids)[i]] < ids[(ordL ids)[i - 1]] := by omega
        have r2 : ¬ ids[(ordL ids)[i - 1]] = ids[(ordL ids)[i]] := by omega
        simp [h3, hlen, gi, c0, c1, c2, c3, seenV_at, hns, f6_at201471, seenV_len, hset, last, hp, hw1, gi1, gx, gx1, r1, r2]
      · have r1 : ¬ ids[(ordL ids)[i]] < ids[(ordL ids)[i - 1]] := by omega
        have r3 : ¬ (ordL ids)[i] < (ordL ids)[i - 1] := by omega
        simp [h3, hlen, gi, c0, c1, c2, c3, seenV_at, hns, f6_at201471, seenV_len, hset, last, hp, hw1, gi1, gx, gx1, r1, hr, r3]
theorem orders_build (zs : List Int) (b_0 : Bool) (hz : ∀ z ∈ zs, -128 ≤ z ∧ z ≤ 127) (hn : zs.length ≤ 20) : ∀ (d i : Nat) (b_2 : Bool), i + d = zs.length →
    rk Try.prog pol (Task.at_ 6 0 [false, true, false, true, true, true, true] (sv 117 [(0, V.d (D.l b_0 (ints .i8 zs))), (3, V.d (D.l b_2 (ints .i64 (zs.take i)))), (4, V.d (D.i .i64 (i : Int)))]) [(3, 1)] []) = some (.d (.b true), []) := by
  intro d
  induction d with
  | zero =>
    intro i b_2 hi
    rw [f6_at175]
    have h3 : ¬ ((i : Int) < (zs.length : Int)) := by omega
    have ht : zs.take i = zs := List.take_of_length_le (by omega)
    rw [ht]
    have hloop := orders_loop zs b_2 false hn zs.length 0 (by omega)
    rw [Int.natCast_zero] at hloop
    have hs0 : seenV (ordL zs) 0 = List.replicate 20 (V.d (D.b false)) := by simp [seenV]; rfl
    rw [hs0] at hloop
    simpa [h3, order_run b_2 zs hn, ordL_len] using hloop
  | succ d ih =>
    intro i b_2 hi
    rw [f6_at175]
    have hx : i < zs.length := by omega
    have gx := List.getElem?_eq_getElem hx
    have h3 : ((i : Int) < (zs.length : Int)) := by omega
    have hb := hz _ (List.getElem_mem hx)
    have hw : IntKind.i64.wrap ((i : Int) + 1) = (i : Int) + 1 := by rw [wrap_i64] <;> omega
    have hw2 : IntKind.i64.wrap zs[i] = zs[i] := by rw [wrap_i64] <;> omega
    have ih' := ih (i + 1) false (by omega)
    rw [Int.natCast_add, Int.natCast_one] at ih'
    have e1 : ints .i64 (zs.take i) ++ [D.i .i64 zs[i]] = ints .i64 (zs.take (i + 1)) := by
      rw [ints_snoc, List.take_add_one, gx]; rfl
    have hl : min i zs.length ≤ 4294967295 := by omega
    have hl2 : i ≤ 4294967295 := by omega
    simp [h3, gx, hw, hw2, e1, ih', hl, hl2]
theorem orders_run (fa : Bool) (zs : List Int) (hz : ∀ z ∈ zs, -128 ≤ z ∧ z ≤ 127) : rk Try.prog pol (Task.call 6 [V.d (D.l fa (ints .i8 zs))] []) = some (.d (.b true), []) := by
  rw [f6]
  by_cases h : (20 : Int) < (zs.length : Int)
  · simp [begun_run, h]
  · have := orders_build zs fa hz (by omega) zs.length 0 true (by omega)
    rw [Int.natCast_zero] at this
    simp only [List.take_zero, ints_nil] at this
    simp [begun_run, h, this]
end Go.Dn.Field
namespace Go.Dn.Field
def hasZ (z : Int) : Bool := decide (0 < z.tmod 3)
def idZ (z : Int) : Int := 1 + z.tmod 299
def zAt (zs : List Int) (i : Nat) : Int := zs.getD i 0
def mkF (zs : List Int) (i : Nat) : Fd := { has := hasZ (zAt zs i), id := if hasZ (zAt zs i) = true then idZ (zAt zs i) else 0, name := [UInt8.ofNat (97 + i)], r2 := .i .i64 0, r3 := .s [], r5 := .b false, r6 := .i .i64 0, r7 := .i .i64 0, r8 := .i .u64 0, r9 := .s [], r10 := .l true [] }
theorem mkF_ok (zs : List Int) (i : Nat) : (mkF zs i).ok := ⟨rfl, rfl, rfl, rfl, rfl, rfl, rfl, rfl⟩
def seenB (zs : List Int) (i : Nat) (j : Int) : Bool := (List.range i).any fun k => hasZ (zAt zs k) && idZ (zAt zs k) == j
def twiceB (zs : List Int) : Nat → Bool
  | 0 => false
  | i + 1 => twiceB zs i || (hasZ (zAt zs i) && seenB zs i (idZ (zAt zs i)))
def cntNo (zs : List Int) : Nat → Nat
  | 0 => 0
  | i + 1 => cntNo zs i + (if hasZ (zAt zs i) = true then 0 else 1)
def idAt (zs : List Int) (i : Nat) : Int := if hasZ (zAt zs i) = true then idZ (zAt zs i) else -(cntNo zs (i + 1) : Int)
def idsL (zs : List Int) (n : Nat) : List Int := (List.range n).map (idAt zs)
theorem cntNo_mono (zs : List Int) {a b : Nat} (h : a ≤ b) : cntNo zs a ≤ cntNo zs b := by
  induction h with
  | refl => exact Nat.le_refl _
  | step _ ih => simp only [cntNo]; omega
theorem cntNo_le (zs : List Int) : ∀ a, cntNo zs a ≤ a
  | 0 => Nat.le_refl _
  | a + 1 => by have := cntNo_le zs a; simp only [cntNo]; split <;> omega
theorem twiceB_mono (zs : List Int) {a b : Nat} (h : a ≤ b) (ht : twiceB zs a = true) : twiceB zs b = true := by
  induction h with
  | refl => exact ht
  | step _ ih => simp only [twiceB, ih, Bool.true_or]
/-- Numbers of sixteen bits. -/
def U16 (zs : List Int) : Prop := ∀ z ∈ zs, 0 ≤ z ∧ z ≤ 65535
theorem U16.at {zs : List Int} (h : U16 zs) (i : Nat) : 0 ≤ zAt zs i ∧ zAt zs i ≤ 65535 := by
  unfold zAt
  rw [List.getD_eq_getElem?_getD]
  cases hi : zs[i]? with
  | none => simp
  | some z => exact h z (List.mem_of_getElem? hi)
theorem idZ_range {z : Int} (h : 0 ≤ z) : 1 ≤ idZ z ∧ idZ z ≤ 299 := by
  unfold idZ
  rw [Int.tmod_eq_emod_of_nonneg h]
  have h1 := Int.emod_nonneg z (show (299 : Int) ≠ 0 by decide)
  have h2 := Int.emod_lt_of_pos z (show (0 : Int) < 299 by decide)
  omega
theorem any_id {zs : List Int} (hu : U16 zs) (i : Nat) : ((List.range i).any fun k => idAt zs k == idAt zs i) = (hasZ (zAt zs i) && seenB zs i (idZ (zAt zs i))) := by
  unfold seenB
  cases hi : hasZ (zAt zs i) with
  | true =>
    simp only [Bool.true_and]
    apply Bool.eq_iff_iff.2
    simp only [List.any_eq_true, List.mem_range]
    have e : idAt zs i = idZ (zAt zs i) := by simp [idAt, hi]
    rw [e]
    have hr := idZ_range (hu.at i).1
    constructor
    · rintro ⟨k, hk, h⟩
      refine ⟨k, hk, ?_⟩
      simp only [beq_iff_eq, idAt] at h
      cases hk2 : hasZ (zAt zs k) with
      | true => rw [hk2] at h; simpa using h
      | false => rw [hk2] at h; simp at h; omega
    · rintro ⟨k, hk, h⟩
      refine ⟨k, hk, ?_⟩
      simp only [Bool.and_eq_true, beq_iff_eq] at h
      simp only [beq_iff_eq, idAt, h.1, if_true]; exact h.2
  | false =>
    simp only [Bool.false_and, List.any_eq_false, List.mem_range, beq_iff_eq]
    intro k hk h
    have e : idAt zs i = -(cntNo zs (i + 1) : Int) := by simp [idAt, hi]
    have c1 : cntNo zs (i + 1) = cntNo zs i + 1 := by simp [cntNo, hi]
    rw [e] at h
    cases hk2 : hasZ (zAt zs k) with
    | true =>
      have hr := idZ_range (hu.at k).1
      simp [idAt, hk2] at h; omega
    | false =>
      have := cntNo_mono zs (show k + 1 ≤ i by omega)
      simp [idAt, hk2] at h; omega
theorem ids_unlike {zs : List Int} (hu : U16 zs) {n : Nat} (ht : twiceB zs n = false) {k i : Nat} (hk : k < i) (hi : i < n) : idAt zs k ≠ idAt zs i := by
  have h1 : twiceB zs (i + 1) = false := by
    cases h : twiceB zs (i + 1) with
    | false => rfl
    | true => rw [twiceB_mono zs (by omega) h] at ht; cases ht
  simp only [twiceB, Bool.or_eq_false_iff] at h1
  have h2 := any_id hu i
  rw [h1.2] at h2
  have := List.any_eq_false.1 h2 k (List.mem_range.2 hk)
  simpa using this
def doneL (zs : List Int) (i : Nat) : List (Int × List UInt8) := (List.range i).map fun k => (idAt zs k, [UInt8.ofNat (97 + k)])
theorem name_ne {k i : Nat} (h : k < i) (hi : i < 100) : ([UInt8.ofNat (97 + k)] == [UInt8.ofNat (97 + i)]) = false := by
  simp only [beq_eq_false_iff_ne, ne_eq, List.cons.injEq, and_true]
  intro e
  have := congrArg UInt8.toNat e
  simp at this
  omega
theorem idsGo_made {zs : List Int} (hu : U16 zs) (n : Nat) (hn : n ≤ 100) : ∀ (d i : Nat), i + d = n → twiceB zs i = false →
    idsGo (-(cntNo zs i : Int)) (doneL zs i) ((List.range' i d).map (mkF zs)) = if twiceB zs n = true then ([], 8) else (idsL zs n, 0)
  | 0, i, hi, ht => by
    have : i = n := by omega
    subst this
    rw [ht]
    simp [idsGo, doneL, idsL]
  | d + 1, i, hi, ht => by
    rw [List.range'_succ, List.map_cons]
    have hr := idZ_range (hu.at i).1
    have hok : ¬ ((mkF zs i).has = true ∧ ((mkF zs i).id < 1 ∨ 32767 < (mkF zs i).id)) := by
      rintro ⟨h1, h2⟩
      simp only [mkF] at h1 h2
      rw [if_pos h1] at h2; omega
    have hid : (if (mkF zs i).has = true then (mkF zs i).id else -(cntNo zs i : Int) - 1) = idAt zs i := by
      by_cases hh : hasZ (zAt zs i) = true
      · rw [if_pos (show (mkF zs i).has = true from hh)]; simp [mkF, idAt, hh]
      · rw [if_neg (show ¬ (mkF zs i).has = true from hh)]; simp [idAt, hh, cntNo]; omega
    have hlast : (if (mkF zs i).has = true then -(cntNo zs i : Int) else -(cntNo zs i : Int) - 1) = -(cntNo zs (i + 1) : Int) := by
      by_cases hh : hasZ (zAt zs i) = true
      · rw [if_pos (show (mkF zs i).has = true from hh)]; simp [hh, cntNo]
      · rw [if_neg (show ¬ (mkF zs i).has = true from hh)]; simp [hh, cntNo]; omega
    have hany : ((doneL zs i).any fun p => p.1 == idAt zs i || p.2 == (mkF zs i).name) = (hasZ (zAt zs i) && seenB zs i (idZ (zAt zs i))) := by
      rw [← any_id hu i]
      simp only [doneL, List.any_map]
      apply Bool.eq_iff_iff.2
      simp only [List.any_eq_true, List.mem_range, Function.comp]
      constructor
      · rintro ⟨k, hk, h⟩
        refine ⟨k, hk, ?_⟩
        have hne : ([UInt8.ofNat (97 + k)] == (mkF zs i).name) = false := name_ne hk (by omega)
        rw [hne, Bool.or_false] at h; exact h
      · rintro ⟨k, hk, h⟩; exact ⟨k, hk, by rw [h]; rfl⟩
    have hstep : idsGo (-(cntNo zs i : Int)) (doneL zs i) (mkF zs i :: (List.range' (i + 1) d).map (mkF zs)) =
        if (hasZ (zAt zs i) && seenB zs i (idZ (zAt zs i))) = true then ([], 8) else idsGo (-(cntNo zs (i + 1) : Int)) (doneL zs (i + 1)) ((List.range' (i + 1) d).map (mkF zs)) := by
      have e : doneL zs (i + 1) = doneL zs i ++ [(idAt zs i, (mkF zs i).name)] := by simp [doneL, List.range_succ, mkF]
      rw [idsGo, if_neg hok]
      simp only [hid, hlast, hany, e]
    rw [hstep]
    cases hc : (hasZ (zAt zs i) && seenB zs i (idZ (zAt zs i))) with
    | true =>
      have : twiceB zs n = true := twiceB_mono zs (show i + 1 ≤ n by omega) (by simp only [twiceB, hc, Bool.or_true])
      rw [this]; simp
    | false =>
      rw [if_neg (by simp)]
      exact idsGo_made hu n hn d (i + 1) (by omega) (by simp only [twiceB, ht, hc, Bool.or_false])
theorem ids_made {zs : List Int} (hu : U16 zs) (n : Nat) (hn : n ≤ 100) : idsGo 0 [] ((List.range n).map (mkF zs)) = if twiceB zs n = true then ([], 8) else (idsL zs n, 0) := by
  have := idsGo_made hu n hn n 0 (by omega) rfl
  simpa [cntNo, doneL, List.range_eq_range'] using this
end Go.Dn.Field
namespace Go.Dn.Field
open Go.Proofs
def seenC (zs : List Int) (i : Nat) : List V := (List.range 300).map fun j : Nat => V.d (.b (seenB zs i (j : Int)))
theorem seenC_len (zs : List Int) (i : Nat) : (seenC zs i).length = 300 := by simp [seenC]
theorem seenC_at (zs : List Int) (i j : Nat) (h : j < (seenC zs i).length) : (seenC zs i)[j] = V.d (.b (seenB zs i (j : Int))) := by simp [seenC]
theorem seenB_succ (zs : List Int) (i : Nat) (j : Int) : seenB zs (i + 1) j = (seenB zs i j || (hasZ (zAt zs i) && idZ (zAt zs i) == j)) := by
  simp only [seenB, List.range_succ, List.any_append, List.any_cons, List.any_nil, Bool.or_false]
theorem seenC_skip (zs : List Int) (i : Nat) (h : hasZ (zAt zs i) = false) : seenC zs (i + 1) = seenC zs i := by
  unfold seenC
  apply List.map_congr_left
  intro j _
  rw [seenB_succ, h]; simp
theorem seenC_set (zs : List Int) (i m : Nat) (h : hasZ (zAt zs i) = true) (hm : (m : Int) = idZ (zAt zs i)) : (seenC zs i).set m (V.d (.b true)) = seenC zs (i + 1) := by
  apply List.ext_getElem?
  intro j
  rcases Nat.lt_or_ge j 300 with hj | hj
  · rw [List.getElem?_set]
    have e2 : (seenC zs (i + 1))[j]? = some (V.d (.b (seenB zs (i + 1) (j : Int)))) := by simp [seenC, hj]
    have e1 : (seenC zs i)[j]? = some (V.d (.b (seenB zs i (j : Int)))) := by simp [seenC, hj]
    rw [e2, seenB_succ, h, ← hm]
    by_cases e : m = j
    · subst e
      rw [if_pos rfl, if_pos (by rw [seenC_len]; exact hj)]
      simp
    · rw [if_neg e, e1]
      have : ((m : Int) == (j : Int)) = false := by simpa using fun h => e (by omega)
      rw [this]; simp
  · rw [List.getElem?_eq_none (by rw [List.length_set, seenC_len]; exact hj), List.getElem?_eq_none (by rw [seenC_len]; exact hj)]
theorem zAt_get {zs : List Int} {i : Nat} (h : i < zs.length) : zs[i]? = some (zAt zs i) := by
  unfold zAt; rw [List.getD_eq_getElem?_getD, List.getElem?_eq_getElem h]; rfl
theorem head_fds (l : List Fd) : headOk 11 (l.map Fd.d) = true := by cases l <;> simp
theorem idsL_get (zs : List Int) (n i : Nat) (h : i < n) : (idsL zs n)[i]? = some (idAt zs i) := by simp [idsL, h]
theorem idsL_len (zs : List Int) (n : Nat) : (idsL zs n).length = n := by simp [idsL]
theorem unlike_order (zs : List Int) (hu : U16 zs) (n : Nat) (hn : n ≤ 20) (ht : twiceB zs n = false) (b_0 b_2 : Bool) : ∀ (d i : Nat), i + d = n →
    rk Try.prog pol (Task.at_ 4 0 [false, true, false, true, true, true, true, true, true, true, true, true, true, true, true, true, true]
      (sv 163 [(8, V.d (D.l b_0 (ints .i64 (idsL zs n)))), (12, V.d (D.l b_2 (nats (ordL (idsL zs n))))), (13, V.d (D.i .i64 (i : Int)))]) [] []) = some (.d (.b true), []) := by
  have hlen : (ordL (idsL zs n)).length = n := by rw [ordL_len, idsL_len]
  have hlt : ∀ (i : Nat) (h : i < (ordL (idsL zs n)).length), (ordL (idsL zs n))[i] < n := fun i h => by
    have := (ordL_perm (idsL zs n)).mem_iff.1 (List.getElem_mem h)
    simpa [idsL_len] using this
  intro d
  induction d with
  | zero =>
    intro i hi
    rw [f4_at180223]
    have h3 : ¬ ((i : Int) < (n : Int)) := by omega
    simp [h3, hlen]
  | succ d ih =>
    intro i hi
    have hio : i < (ordL (idsL zs n)).length := by omega
    have hx := hlt i hio
    have gi := List.getElem?_eq_getElem hio
    have h3 : ((i : Int) < (n : Int)) := by omega
    have c0 : ¬ (((ordL (idsL zs n))[i] : Nat) : Int) < 0 := by omega
    have c1 : ¬ (n : Int) ≤ (((ordL (idsL zs n))[i] : Nat) : Int) := by omega
    have hw : IntKind.i64.wrap ((i : Int) + 1) = (i : Int) + 1 := by rw [wrap_i64] <;> omega
    have ih' := ih (i + 1) (by omega)
    rw [Int.natCast_add, Int.natCast_one] at ih'
    have last : rk Try.prog pol (Task.at_ 4 0 [true, false, false, true, false, false, true, false, true, true, true, true, true, true, true, true, true, true, true, true, true, true]
        (sv 163 [(8, V.d (D.l b_0 (ints .i64 (idsL zs n)))), (12, V.d (D.l b_2 (nats (ordL (idsL zs n))))), (13, V.d (D.i .i64 (i : Int))), (162, V.d (D.b false))]) [] []) = some (.d (.b true), []) := by
      rw [f4_at6602751]
      simp [hw, ih']
    rw [f4_at180223]
    rcases Nat.eq_zero_or_pos i with hi0 | hi0
    · subst hi0
      rw [Int.natCast_zero] at last h3
      simp [hlen, gi, c0, c1, idsL_len, last]
    · have hw1 : IntKind.i64.wrap ((i : Int) - 1) = ((i - 1 : Nat) : Int) := by rw [wrap_i64] <;> omega
      have hi1 : i - 1 < (ordL (idsL zs n)).length := by omega
      have hx1 := hlt (i - 1) hi1
      have gi1 := List.getElem?_eq_getElem hi1
      have gx := idsL_get zs n _ hx
      have gx1 := idsL_get zs n _ hx1
      have hr := List.pairwise_iff_getElem.1 (ordL_rises (idsL zs n)) (i - 1) i hi1 hio (by omega)
      simp only [List.getD_eq_getElem?_getD, gx, gx1, Option.getD_some] at hr
      have r1 : ¬ idAt zs (ordL (idsL zs n))[i] ≤ idAt zs (ordL (idsL zs n))[i - 1] := by
        rcases hr with hr | ⟨hr, hr2⟩
        · omega
        · exact absurd hr (ids_unlike hu ht hr2 hx)
      simp [h3, hlen, gi, c0, c1, idsL_len, last, hi0, hw1, gi1, gx, gx1, r1]
theorem unlike_check (zs : List Int) (hu : U16 zs) (hn : zs.length ≤ 15) (ht : twiceB zs zs.length = false) (b_0 b_2 : Bool) : ∀ (d i : Nat), i + d = zs.length →
    rk Try.prog pol (Task.at_ 4 0 [false, true, false, true, true, true, true, true, true, true, true, true, true, true]
      (sv 163 [(0, V.d (D.l b_0 (ints .u16 zs))), (8, V.d (D.l b_2 (ints .i64 (idsL zs zs.length)))), (10, V.d (D.i .i64 (-(cntNo zs i : Int)))), (11, V.d (D.i .i64 (i : Int)))]) [] []) = some (.d (.b true), []) := by
  intro d
  induction d with
  | zero =>
    intro i hi
    rw [f4_at22527]
    have h3 : ¬ ((i : Int) < (zs.length : Int)) := by omega
    have ho := unlike_order zs hu zs.length (by omega) ht b_2 false zs.length 0 (by omega)
    rw [Int.natCast_zero] at ho
    simp [h3, order_run b_2 (idsL zs zs.length) (by rw [idsL_len]; omega), ordL_len, ho]
  | succ d ih =>
    intro i hi
    rw [f4_at22527]
    have hx : i < zs.length := by omega
    have gx := zAt_get hx
    have gy := idsL_get zs zs.length i hx
    have h3 : ((i : Int) < (zs.length : Int)) := by omega
    have hr := idZ_range (hu.at i).1
    have hc := cntNo_le zs i
    have hw : IntKind.i64.wrap ((i : Int) + 1) = (i : Int) + 1 := by rw [wrap_i64] <;> omega
    have ih' := ih (i + 1) (by omega)
    rw [Int.natCast_add, Int.natCast_one] at ih'
    cases hh : hasZ (zAt zs i) with
    | true =>
      have hp : 0 < (zAt zs i).tmod 3 := by simpa [hasZ] using hh
      have hw1 : IntKind.i64.wrap ((zAt zs i).tmod 299) = (zAt zs i).tmod 299 := by unfold idZ at hr; rw [wrap_i64] <;> omega
      have hw2 : IntKind.i64.wrap (1 + (zAt zs i).tmod 299) = idZ (zAt zs i) := by unfold idZ at hr ⊢; rw [wrap_i64] <;> omega
      have e1 : idAt zs i = idZ (zAt zs i) := by simp [idAt, hh]
      have e2 : cntNo zs (i + 1) = cntNo zs i := by simp [cntNo, hh]
      rw [e2] at ih'
      simp [h3, gx, gy, hp, hw1, hw2, e1, f4_at235519, hw, ih']
    | false =>
      have hp : ¬ 0 < (zAt zs i).tmod 3 := by simpa [hasZ] using hh
      have e2 : cntNo zs (i + 1) = cntNo zs i + 1 := by simp [cntNo, hh]
      have e1 : idAt zs i = -(cntNo zs i : Int) - 1 := by simp [idAt, hh, e2]; omega
      have hw1 : IntKind.i64.wrap (-(cntNo zs i : Int) - 1) = -(cntNo zs i : Int) - 1 := by rw [wrap_i64] <;> omega
      have e3 : -((cntNo zs (i + 1) : Nat) : Int) = -(cntNo zs i : Int) - 1 := by rw [e2]; omega
      rw [e3] at ih'
      simp [h3, gx, gy, hp, hw1, e1, f4_at235519, hw, ih']
theorem unlike_build (zs : List Int) (hu : U16 zs) (hn : zs.length ≤ 15) (b_0 : Bool) : ∀ (d i : Nat) (b_2 : Bool), i + d = zs.length →
    rk Try.prog pol (Task.at_ 4 0 [false, true, false, true, true, true, true, true, true] (sv 163 [(0, V.d (D.l b_0 (ints .u16 zs))), (3, V.d (D.l b_2 (((List.range i).map (mkF zs)).map Fd.d))), (4, V.p 0 0), (5, V.d (D.b (twiceB zs i))), (6, V.d (D.i .i64 (i : Int)))])
      [(3, 11)] [Ob.cells (seenC zs i) []]) = some (.d (.b true), []) := by
  intro d
  induction d with
  | zero =>
    intro i b_2 hi
    rw [f4_at703]
    have h3 : ¬ ((i : Int) < (zs.length : Int)) := by omega
    have hiz : i = zs.length := by omega
    subst hiz
    obtain ⟨b, e⟩ := ids_run b_2 ((List.range zs.length).map (mkF zs)) (by simp; omega) (fun f hf => by obtain ⟨k, _, rfl⟩ := List.mem_map.1 hf; exact mkF_ok zs k)
    rw [ids_made hu zs.length (by omega)] at e
    generalize ((List.range zs.length).map (mkF zs)).map Fd.d = X at e ⊢
    cases ht : twiceB zs zs.length with
    | true =>
      rw [ht] at e
      simp only [if_true] at e
      simp [h3, e, ints]
    | false =>
      rw [ht] at e
      simp only [Bool.false_eq_true, if_false] at e
      have hc := unlike_check zs hu hn ht b_0 b zs.length 0 (by omega)
      simp only [cntNo, Int.natCast_zero, Int.neg_zero] at hc
      simp [h3, e, idsL_len, f4_at3583, hc]
  | succ d ih =>
    intro i b_2 hi
    rw [f4_at703]
    have hx : i < zs.length := by omega
    have gx := zAt_get hx
    have h3 : ((i : Int) < (zs.length : Int)) := by omega
    have hr := idZ_range (hu.at i).1
    have hz := hu.at i
    have hw : IntKind.i64.wrap ((i : Int) + 1) = (i : Int) + 1 := by rw [wrap_i64] <;> omega
    have hl : i ≤ 4294967295 := by omega
    have hb1 : IntKind.i64.wrap (97 + (i : Int)) = 97 + (i : Int) := by rw [wrap_i64] <;> omega
    have hb2 : IntKind.u8.wrap (97 + (i : Int)) = 97 + (i : Int) := by rw [wrap_u8] <;> omega
    have hb3 : (97 + (i : Int)).toNat = 97 + i := by omega
    have ih' := ih (i + 1) false (by omega)
    rw [Int.natCast_add, Int.natCast_one] at ih'
    have last : ∀ (t : Bool), t = twiceB zs (i + 1) → rk Try.prog pol (Task.at_ 4 0 [true, true, false, false, true, false, false, true, false, true, true, true, true, true, true]
        (sv 163 [(0, V.d (D.l b_0 (ints .u16 zs))), (3, V.d (D.l b_2 (((List.range i).map (mkF zs)).map Fd.d))), (4, V.p 0 0), (5, V.d (D.b t)), (6, V.d (D.i .i64 (i : Int))), (7, V.p 1 0)]) [(3, 11)]
        [Ob.cells [V.d (D.b (mkF zs i).has), V.d (D.i .i64 (mkF zs i).id), V.d (D.i .i64 0), V.d (D.s []), V.d (D.s [UInt8.ofNat (97 + i)]), V.d (D.b false), V.d (D.i .i64 0), V.d (D.i .i64 0), V.d (D.i .u64 0), V.d (D.s []), V.d (D.l true [])] [],
          Ob.cells (seenC zs (i + 1)) []]) = some (.d (.b true), []) := by
      intro t ht
      rw [f4_at58559]
      have e : ((List.range i).map (mkF zs)).map Fd.d ++ [D.g [D.b (mkF zs i).has, D.i .i64 (mkF zs i).id, D.i .i64 0, D.s [], D.s [UInt8.ofNat (97 + i)], D.b false, D.i .i64 0, D.i .i64 0, D.i .u64 0, D.s [], D.l true []]] =
          ((List.range (i + 1)).map (mkF zs)).map Fd.d := by
        rw [List.range_succ, List.map_append, List.map_append]; rfl
      rw [← ht] at ih'
      simp only [List.length_map, List.length_range, interp_ift', head_fds, if_true, Bool.or_true, interp_call_ret, Bool.and_false, e, hw]
      rw [if_pos (by simpa using hl)]
      exact ih'
    cases hh : hasZ (zAt zs i) with
    | true =>
      have hp : 0 < (zAt zs i).tmod 3 := by simpa [hasZ] using hh
      obtain ⟨m, hm⟩ : ∃ m : Nat, (m : Int) = idZ (zAt zs i) := ⟨(idZ (zAt zs i)).toNat, by omega⟩
      have hm3 : m < 300 := by omega
      have hm4 : (m : Int) < 300 := by omega
      have hw0 : IntKind.u16.wrap (1 + (zAt zs i).tmod 299) = (m : Int) := by
        rw [hm]; unfold idZ at hr ⊢
        have e : ((2 : Int) ^ IntKind.u16.bits) = 65536 := by decide
        simp only [IntKind.wrap, IntKind.signed, Bool.false_and, e]
        simp; omega
      have hw1 : IntKind.i64.wrap (m : Int) = (m : Int) := by rw [wrap_i64] <;> omega
      have e1 : (mkF zs i).has = true := hh
      have e2 : (mkF zs i).id = (m : Int) := by simp [mkF, hh, hm]
      have hset := seenC_set zs i m hh hm
      have htw : twiceB zs (i + 1) = (twiceB zs i || seenB zs i (m : Int)) := by simp [twiceB, hh, hm]
      have l2 := last _ rfl
      generalize ((List.range i).map (mkF zs)).map Fd.d = X at l2 ⊢
      rw [e1, e2] at l2
      cases ht : twiceB zs i with
      | true =>
        rw [htw, ht] at l2
        simp only [Bool.true_or] at l2
        simpa [h3, gx, hp, hw0, hw1, hb1, hb2, hb3, f4_at959679, seenC_len, hm3, hm4, hset] using l2
      | false =>
        rw [htw, ht] at l2
        simp only [Bool.false_or] at l2
        simpa [h3, gx, hp, hw0, hw1, hb1, hb2, hb3, f4_at959679, seenC_len, seenC_at, hm3, hm4, hset] using l2
    | false =>
      have hp : ¬ 0 < (zAt zs i).tmod 3 := by simpa [hasZ] using hh
      have e1 : (mkF zs i).has = false := hh
      have e2 : (mkF zs i).id = 0 := by simp [mkF, hh]
      have l2 := last _ rfl
      generalize ((List.range i).map (mkF zs)).map Fd.d = X at l2 ⊢
      rw [e1, e2, seenC_skip zs i hh] at l2
      have htw : twiceB zs (i + 1) = twiceB zs i := by simp [twiceB, hh]
      rw [htw] at l2
      simpa [h3, gx, hp, hb1, hb2, hb3] using l2
theorem unlike_run (fa : Bool) (zs : List Int) (hu : U16 zs) : rk Try.prog pol (Task.call 4 [V.d (D.l fa (ints .u16 zs))] []) = some (.d (.b true), []) := by
  rw [f4]
  by_cases h : (15 : Int) < (zs.length : Int)
  · simp only [interp_call', begun_run, Option.bind_some, List.isEmpty_nil, interp_ift', if_true, asD_d, asB_b, interp_brB, Bool.not_true, Bool.false_eq_true, if_false, interp_ret, gt_iff_lt, ints_length, decide_eq_true_eq, if_pos h]
  · have := unlike_build zs hu (by omega) fa zs.length 0 true (by omega)
    have hs : seenC zs 0 = List.replicate 300 (V.d (D.b false)) := by
      apply List.ext_getElem?
      intro j
      unfold seenC
      rw [List.getElem?_map, List.getElem?_replicate]
      by_cases hj : j < 300
      · rw [List.getElem?_range hj, if_pos hj]; simp [seenB]
      · rw [List.getElem?_eq_none (by simp; omega), if_neg hj]; rfl
    rw [Int.natCast_zero, hs] at this
    simp only [List.range_zero, List.map_nil, twiceB] at this
    simp only [interp_call', begun_run, Option.bind_some, List.isEmpty_nil, interp_ift', if_true, asD_d, asB_b, interp_brB, Bool.not_true, Bool.false_eq_true, if_false, interp_call_ret, gt_iff_lt, ints_length, decide_eq_true_eq, if_neg h]
    rw [this]; rfl
end Go.Dn.Field
