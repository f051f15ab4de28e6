/- The sort's contract at this dump, laid in plain words by the kit's own tool. -/
import Derived.Shelf.GgSortMore.Stable
import Derived.Test.YtfbefnmggilfdaaProg
import Derived.KernelRfl
import Derived.Test.YtfbefnmggilfdaaDn3
import Derived.Deep.QuietTactic
import Derived.WalkKit
import Derived.WalkSpells
import Derived.WalkLawsBesides
import Derived.Test.YtfbefnmggilfdaaDn4
namespace Go.Proofs
open Go.Shelf
def Try.sl8_ren : Go.Shelf.Ren := ⟨fun | 8 => 13 | 13 => 15 | 14 => 16 | 16 => 18 | 15 => 17 | 29 => 28 | 30 => 29 | 42 => 30 | 49 => 31 | n => n, fun | 20 => 20 | 26 => 51 | 36 => 55 | 0 => 0 | 38 => 57 | 42 => 61 | 3 => 3 | 4 => 4 | 47 => 68 | 17 => 17 | 33 => 52 | 34 => 53 | 89 => 83 | 12 => 12 | 56 => 75 | 82 => 76 | 5 => 5 | 83 => 77 | 84 => 78 | 85 => 79 | 86 => 80 | 87 => 81 | n => n, fun | n => n⟩
theorem Try.sl8 : Go.Proofs.LaysGt.n8 Try.prog Try.sl8_ren := {
  mixed := by kernel_rfl
  f8 := Try.func13.trans (congrArg some (by kernel_rfl))
  f13 := Try.func15.trans (congrArg some (by kernel_rfl))
  f14 := Try.func16.trans (congrArg some (by kernel_rfl))
  f15 := Try.func17.trans (congrArg some (by kernel_rfl))
  f16 := Try.func18.trans (congrArg some (by kernel_rfl))
  f29 := Try.func28.trans (congrArg some (by kernel_rfl))
  f30 := Try.func29.trans (congrArg some (by kernel_rfl))
  f42 := Try.func30.trans (congrArg some (by kernel_rfl))
  f49 := Try.func31.trans (congrArg some (by kernel_rfl))
  t0 := Try.underlying0
  a0 := Try.isAgg0
  z0 := Try.sizeOf0
  v0 := Try.zeroValue0
  i0 := by kernel_rfl
  t3 := Try.underlying3
  a3 := Try.isAgg3
  z3 := Try.sizeOf3
  v3 := Try.zeroValue3
  i3 := by kernel_rfl
  t4 := Try.underlying4
  a4 := Try.isAgg4
  z4 := Try.sizeOf4
  v4 := Try.zeroValue4
  i4 := by kernel_rfl
  t5 := Try.underlying5
  a5 := Try.isAgg5
  z5 := Try.sizeOf5
  v5 := Try.zeroValue5
  i5 := by kernel_rfl
  t12 := Try.underlying12
  a12 := Try.isAgg12
  z12 := Try.sizeOf12
  v12 := Try.zeroValue12
  i12 := by kernel_rfl
  t17 := Try.underlying17
  a17 := Try.isAgg17
  z17 := Try.sizeOf17
  v17 := Try.zeroValue17
  i17 := by kernel_rfl
  t20 := Try.underlying20
  a20 := Try.isAgg20
  z20 := Try.sizeOf20
  v20 := Try.zeroValue20
  i20 := by kernel_rfl
  t26 := Try.underlying51
  a26 := Try.isAgg51
  z26 := Try.sizeOf51
  v26 := Try.zeroValue51
  i26 := by kernel_rfl
  t33 := Try.underlying52
  a33 := Try.isAgg52
  z33 := Try.sizeOf52
  v33 := Try.zeroValue52
  i33 := by kernel_rfl
  t34 := Try.underlying53
  a34 := Try.isAgg53
  z34 := Try.sizeOf53
  v34 := Try.zeroValue53
  i34 := by kernel_rfl
  t36 := Try.underlying55
  a36 := Try.isAgg55
  z36 := Try.sizeOf55
  v36 := Try.zeroValue55
  i36 := by kernel_rfl
  t38 := Try.underlying57
  a38 := Try.isAgg57
  z38 := Try.sizeOf57
  v38 := Try.zeroValue57
  i38 := by kernel_rfl
  t42 := Try.underlying61
  a42 := Try.isAgg61
  z42 := Try.sizeOf61
  v42 := Try.zeroValue61
  i42 := by kernel_rfl
  t47 := Try.underlying68
  a47 := Try.isAgg68
  z47 := Try.sizeOf68
  v47 := Try.zeroValue68
  i47 := by kernel_rfl
  t56 := Try.underlying75
  a56 := Try.isAgg75
  z56 := Try.sizeOf75
  v56 := Try.zeroValue75
  i56 := by kernel_rfl
  t82 := Try.underlying76
  a82 := Try.isAgg76
  z82 := Try.sizeOf76
  v82 := Try.zeroValue76
  i82 := by kernel_rfl
  t83 := Try.underlying77
  a83 := Try.isAgg77
  z83 := Try.sizeOf77
  v83 := Try.zeroValue77
  i83 := by kernel_rfl
  t84 := Try.underlying78
  a84 := Try.isAgg78
  z84 := Try.sizeOf78
  v84 := Try.zeroValue78
  i84 := by kernel_rfl
  t85 := Try.underlying79
  a85 := Try.isAgg79
  z85 := Try.sizeOf79
  v85 := Try.zeroValue79
  i85 := by kernel_rfl
  t86 := Try.underlying80
  a86 := Try.isAgg80
  z86 := Try.sizeOf80
  v86 := Try.zeroValue80
  i86 := by kernel_rfl
  t87 := Try.underlying81
  a87 := Try.isAgg81
  z87 := Try.sizeOf81
  v87 := Try.zeroValue81
  i87 := by kernel_rfl
  t89 := Try.underlying83
  a89 := Try.isAgg83
  z89 := Try.sizeOf83
  v89 := Try.zeroValue83
  i89 := by kernel_rfl }
end Go.Proofs
namespace Go.Proofs
open Go.Shelf Go.RowKit Go.Lib Go.Sort

noncomputable def Try.siT : TypeInfo := (Try.prog.info? 23).get (by kernel_rfl)
noncomputable def Try.siE : TypeInfo := (Try.prog.info? 3).get (by kernel_rfl)
theorem Try.siK (n : Nat) (h2 : 2 ≤ n) : Lib.swapperK n Try.siE 2 = 5 := by
  have a : Try.siE.hasPointers = false := by kernel_rfl
  have b : Try.siE.bytes = 8 := by kernel_rfl
  have c : (n == 0) = false := by simp; omega
  have d : (n == 1) = false := by simp; omega
  simp [Lib.swapperK, a, b, c, d]

set_option maxHeartbeats 2000000 in
/-- The closure that the sort calls. -/
theorem Try.less_any (ib io il ic blk off n c B1 B2 : Nat) (W : World) (Z : Nat → Int) (G : Nat → Nat) (hs1 : W.cell? ⟨B1, 0, none⟩ = some (.slice (some ⟨ib, io, none⟩) il ic)) (hs2 : W.cell? ⟨B2, 0, none⟩ = some (.slice (some ⟨blk, off, none⟩) n c))
    (hz : ∀ t, t < il → W.cell? ⟨ib, io + t, none⟩ = some (.int .i64 (Z t))) (hG : ∀ t, t < n → G t < il)
    (hc : ∀ t, t < n → W.cell? ⟨blk, off + t, none⟩ = some (.int .i64 (G t))) (i j : Nat) (hi : i < n) (hj : j < n) (_hsz : n < 4611686018427387904) (_hil : il < 4611686018427387904) :
    Calls Try.prog 14 #[.int .i64 i, .int .i64 j, .pointer (some ⟨B1, 0, none⟩), .pointer (some ⟨B2, 0, none⟩)] W fun e w' => e = .returned (.bool (decide (Z (G i) < Z (G j)))) ∧ ∃ q, w' = W.drewN q := by
  have ci := hc i hi
  have cj := hc j hj
  have gi := hG i hi
  have gj := hG j hj
  have zi := hz _ gi
  have zj := hz _ gj
  go_enter Try.func14, Try.ntmps14
  go_wp2
  go_quiet (fail)
  go_wp2
  go_ret
  exact ⟨rfl, nq, rfl⟩

theorem Try.info3 : (Try.prog.info? 3).map (fun i => (i.zero, i.size, i.bytes)) = some (some (.int .i64 0), 1, 8) := by kernel_rfl
/-- The places, as they are gathered. -/
def upTo (k : Nat) : List Value := (List.range k).map fun n : Nat => .int .i64 n
theorem upTo_succ (k : Nat) : upTo (k + 1) = upTo k ++ [.int .i64 k] := by simp [upTo, List.range_succ]
theorem upTo_length (k : Nat) : (upTo k).length = k := by simp [upTo]
/-- What the loop keeps. -/
structure Gathers (w wr : World) (a : Option Addr) (len cap k : Nat) (v : Value) : Prop where
  own : wr.ownsRow (w.heap.size + 2) 3 1 v k (upTo k)
  ids : wr.cell? ⟨w.heap.size, 0, none⟩ = some (.slice a len cap)
  out : wr.cell? ⟨w.heap.size + 1, 0, none⟩ = some v
  free : wr.frozen? ⟨w.heap.size + 1, 0, none⟩ = false
  below : Below w.heap.size w wr
  size : w.heap.size + 2 ≤ wr.heap.size
theorem Gathers.start (w : World) (a : Option Addr) (len cap : Nat) : Gathers w ((w.alloc (.cells #[.slice a len cap] 23)).alloc (.cells #[.slice none 0 0] 23)) a len cap 0 (.slice none 0 0) := {
  own := World.ownsRow_nil _ _ _ _
  ids := by rw [World.cell?_alloc_past _ _ _ (by simp), World.cell?_alloc_at _ _ _ _ rfl]; rfl
  out := by rw [World.cell?_alloc_at _ _ _ _ (by simp)]; rfl
  free := World.frozen?_alloc_at _ _ _ _ (by simp)
  below := ((Below.refl _ _).alloc (Nat.le_refl _) _).alloc (by simp) _
  size := by simp }
theorem Gathers.step {w wr w1 : World} {a : Option Addr} {len cap k : Nat} {v v' : Value} {o : Obj} (h : Gathers w wr a len cap k v)
    (hown' : w1.ownsRow (w.heap.size + 2) 3 1 v' (k + 1) (upTo k ++ [.int .i64 k])) (hgrow : (wr.alloc o).grownBy w1 v.ownBlock) :
    Gathers w (w1.setCell ⟨w.heap.size + 1, 0, none⟩ v') a len cap (k + 1) v' ∧ w1.frozen? ⟨w.heap.size + 1, 0, none⟩ = false ∧ w1.cell? ⟨w.heap.size + 1, 0, none⟩ = some v := by
  have hs := h.size
  have hne : ∀ j, j < w.heap.size + 2 → some j ≠ v.ownBlock := fun j hj e => by have := h.own.lt j e.symm; omega
  have hcell : w1.cell? ⟨w.heap.size + 1, 0, none⟩ = some v := hgrow.cell ((World.cell?_alloc_past _ _ _ (by show w.heap.size + 1 < _; omega)).trans h.out) (hne (w.heap.size + 1) (by omega))
  have hfz : w1.frozen? ⟨w.heap.size + 1, 0, none⟩ = false := by
    rw [World.frozen?_of_block (w := wr.alloc o) (hgrow.block (w.heap.size + 1) (by simp; omega) (hne (w.heap.size + 1) (by omega)))]
    exact (World.frozen?_alloc_past _ _ _ (by show w.heap.size + 1 < _; omega)).trans h.free
  refine ⟨⟨by rw [upTo_succ]; exact ownsRow_setCell_below hown' (by show w.heap.size + 1 < w.heap.size + 2; omega) _, ?_, World.cell?_setCell_same _ _ _ hcell, (World.frozen?_setCell _ _ _ _).trans hfz, ?_, ?_⟩, hfz, hcell⟩
  · refine (World.cell?_setCell_other _ _ _ _ (by simp)).trans ?_
    exact hgrow.cell ((World.cell?_alloc_past _ _ _ (by show w.heap.size < _; omega)).trans h.ids) (hne w.heap.size (by omega))
  · refine Below.setCell ?_ (by show w.heap.size ≤ w.heap.size + 1; omega) _
    exact (h.below.alloc (by omega) o).grown hgrow (by simp; omega) (fun j hj => by have := (h.own.lt j hj).1; omega)
  · have := hgrow.size
    simp at this ⊢; omega

set_option maxHeartbeats 1600000 in
set_option maxRecDepth 1000000 in
/-- All of it, but for what the sort does. -/
theorem Try.order_gen (a : Option Addr) (len cap : Nat) (w : World) (h20 : len ≤ 20) (R : Value → World → Prop)
    (hsort : ∀ v wr, Gathers w wr a len cap len v → Calls Try.prog 13 #[.iface 23 v, .func (.func 14) #[] #[.pointer (some ⟨w.heap.size, 0, none⟩), .pointer (some ⟨w.heap.size + 1, 0, none⟩)]] wr fun e w' => e = .returned (.tuple #[]) ∧ w'.cell? ⟨w.heap.size + 1, 0, none⟩ = some v ∧ R v w') :
    Calls Try.prog 11 #[.slice a len cap] w fun e w' => ∃ v, e = .returned v ∧ R v w' := by
  obtain ⟨i0, hi, hz0, hz1, hz2⟩ := info_parts Try.info3
  have hmf : ∀ (fn : Fn) (first cap : Array Value) (w : World), (Instr.makeFunc fn first cap).run Try.prog w = .ok (.func fn first cap) w := fun _ _ _ _ => rfl
  go_enter Try.func11, Try.ntmps11
  go_wp2
  go_loopw [7] (fun i wr => ∃ k : Nat, k ≤ len ∧ i = .int .i64 k ∧ ∃ v, Gathers w wr a len cap k v)
    (fun i _ => len - (intOf i).toNat)
  case atStart => exact ⟨0, Nat.zero_le _, rfl, _, Gathers.start w a len cap⟩
  case round =>
    obtain ⟨k, hk, rfl, v, H⟩ := hrel
    have hout := H.out
    have hids := H.ids
    have hfz := H.free
    have hsz := H.size
    go_wp2_with (first
      | (at_builtin; refine wpList_append_own _ rfl _ _ 23 rfl (w.heap.size + 2) 3 i0 (.int .i64 0) 1 8 Try.underlying23 hi hz0 hz1 hz2 rfl (by decide) _ _ _ rfl (H.own.alloc _) ⟨wr.heap.size, 0, none⟩ 1 1 [.int .i64 k] rfl rfl ?c1 ?c2 ?c3 ?c4 ?c5 ?_)
      | (go_at_call 13; obtain rfl : k = len := (by omega); refine (hsort v wr H).mono ?_; rintro e w2 ⟨rfl, hc2, hR⟩))
    case c1 =>
      intro j u hj
      match j, hj with
      | 0, hj => simp at hj; subst hj; simp [Addr.add]
    case c2 => intro u hu; simp at hu; subst hu; rfl
    case c3 => unfold maxLen; omega
    case c4 => omega
    case c5 => simp; omega
    · intro v' w1 hown' hgrow _
      have hlt : k < len := by assumption
      obtain ⟨S1, hf1, hc1⟩ := H.step hown' hgrow
      obtain ⟨g, cp, rfl⟩ : ∃ g cp, v' = .slice (some ⟨g, 0, none⟩) (k + 1) cp := by
        obtain ⟨_, ⟨_, h0⟩ | ⟨g, cp, cur, h0, _⟩⟩ := hown'
        · omega
        · exact ⟨g, cp, h0⟩
      clear hown' hgrow hids hout hfz
      go_wp2
      go_roundw
      case rel => exact ⟨k + 1, by omega, by simp, _, S1⟩
      case measure => simp [intOf]; omega
    · go_ret
      exact ⟨_, rfl, hR⟩
end Go.Proofs
namespace Go.Dn
open Go.Sort
/-- A place among places that stand reversed: from the right, past those of greater numbers. -/
def insRev {α : Type} (lt : α → α → Bool) (x : α) : List α → List α
  | [] => [x]
  | y :: ys => if lt x y then y :: insRev lt x ys else x :: y :: ys
def insAll {α : Type} (lt : α → α → Bool) (l : List α) : List α := (l.foldl (fun q x => insRev lt x q) []).reverse
theorem insRev_map {α β : Type} {lt : α → α → Bool} {lt' : β → β → Bool} (f : α → β) (h : ∀ a b, lt a b = lt' (f a) (f b)) (x : α) : ∀ l : List α, (insRev lt x l).map f = insRev lt' (f x) (l.map f)
  | [] => rfl
  | y :: ys => by
    simp only [insRev, List.map_cons, ← h]
    split <;> simp [insRev_map f h x ys]
theorem insAll_map {α β : Type} {lt : α → α → Bool} {lt' : β → β → Bool} (f : α → β) (h : ∀ a b, lt a b = lt' (f a) (f b)) (l : List α) : (insAll lt l).map f = insAll lt' (l.map f) := by
  have key : ∀ (l : List α) (q : List α), (l.foldl (fun q x => insRev lt x q) q).map f = (l.map f).foldl (fun q x => insRev lt' x q) (q.map f) := by
    intro l
    induction l with
    | nil => intro q; rfl
    | cons x l ih => intro q; rw [List.foldl_cons, ih, List.map_cons, List.foldl_cons, insRev_map f h]
  unfold insAll
  rw [List.map_reverse, key]; rfl
set_option linter.unusedSectionVars false
section
variable {α : Type} [Inhabited α] {lt : α → α → Bool}
theorem get_mid (q : List α) (x : α) (s : List α) : (q.reverse ++ x :: s)[q.length]? = some x := by
  rw [List.getElem?_append_right (by simp)]; simp
theorem swp_mid {d : Array α} {q : List α} {x y : α} {s : List α} (h : d.toList = (y :: q).reverse ++ x :: s) : (swp d (q.length + 1) q.length).toList = q.reverse ++ x :: y :: s := by
  have hsz : d.size = q.length + 2 + s.length := by rw [← Array.length_toList, h]; simp; omega
  have hx : d[q.length + 1]! = x := by
    have : d.toList[q.length + 1]? = some x := by rw [h]; exact get_mid (y :: q) x s
    rw [Array.getElem?_toList] at this
    simp [Array.getElem!_eq_getD, Array.getD_eq_getD_getElem?, this]
  have hy : d[q.length]! = y := by
    have : d.toList[q.length]? = some y := by rw [h, List.reverse_cons, List.append_assoc]; exact get_mid q y (x :: s)
    rw [Array.getElem?_toList] at this
    simp [Array.getElem!_eq_getD, Array.getD_eq_getD_getElem?, this]
  unfold swp
  rw [hx, hy, Array.toList_setIfInBounds, Array.toList_setIfInBounds, h]
  simp
theorem insInner_list : ∀ (q : List α) (x : α) (s : List α) (d : Array α), d.toList = q.reverse ++ x :: s → (insInner lt 0 q.length d).toList = (insRev lt x q).reverse ++ s
  | [], x, s, d, h => by simpa [insInner, insRev] using h
  | y :: q, x, s, d, h => by
    have hx : d[q.length + 1]! = x := by
      have : d.toList[q.length + 1]? = some x := by rw [h]; exact get_mid (y :: q) x s
      rw [Array.getElem?_toList] at this
      simp [Array.getElem!_eq_getD, Array.getD_eq_getD_getElem?, this]
    have hy : d[q.length]! = y := by
      have : d.toList[q.length]? = some y := by rw [h, List.reverse_cons, List.append_assoc]; exact get_mid q y (x :: s)
      rw [Array.getElem?_toList] at this
      simp [Array.getElem!_eq_getD, Array.getD_eq_getD_getElem?, this]
    simp only [List.length_cons, insInner, insRev, hx, hy]
    cases hlt : lt x y
    · simp [h]
    · simp only [Nat.zero_lt_succ, gt_iff_lt, decide_true, Bool.and_self, if_true]
      rw [insInner_list q x (y :: s) _ (swp_mid h)]
      simp
theorem insOuter_list : ∀ (rest q : List α) (d : Array α) (n : Nat), n = q.length + rest.length → d.toList = q.reverse ++ rest → (insOuter lt 0 n q.length d).toList = (rest.foldl (fun q x => insRev lt x q) q).reverse
  | [], q, d, n, hn, h => by
    rw [insOuter, if_neg (by simp at hn; omega)]; simpa using h
  | x :: rest, q, d, n, hn, h => by
    rw [insOuter, if_pos (by simp at hn; omega)]
    have h1 := insInner_list (lt := lt) q x rest d h
    have hl : (insRev lt x q).length = q.length + 1 := by
      have : ∀ q : List α, (insRev lt x q).length = q.length + 1 := by
        intro q; induction q with
        | nil => rfl
        | cons y q ih => simp only [insRev]; split <;> simp [ih]
      exact this q
    rw [← hl]
    exact insOuter_list rest (insRev lt x q) _ n (by rw [hl]; simp at hn; omega) h1
theorem insertionSort_list (d : Array α) : (insertionSort lt d 0 d.size).toList = insAll lt d.toList := by
  unfold insertionSort insAll
  cases hd : d.toList with
  | nil =>
    have : d.size = 0 := by rw [← Array.length_toList, hd]; rfl
    rw [insOuter, if_neg (by omega), hd]; rfl
  | cons x l =>
    have := insOuter_list (lt := lt) l [x] d d.size (by rw [← Array.length_toList, hd]; simp; omega) (by simpa using hd)
    simpa [insRev] using this
end
/-- The places of numbers, so that the numbers rise. -/
def ordLt (zs : List Int) (a b : Nat) : Bool := decide (zs.getD a 0 < zs.getD b 0)
def ordL (zs : List Int) : List Nat := insAll (ordLt zs) (List.range zs.length)
end Go.Dn
namespace Go.Proofs
open Go.Shelf Go.RowKit Go.Lib Go.Sort Go.Dn

/-- What stands behind the call: a row of the call's own with the places. -/
def OrderEnd (w : World) (len : Nat) (zs : List Int) (v : Value) (w' : World) : Prop :=
  Below w.heap.size w w' ∧ ∃ a c, v = .slice a len c ∧ len ≤ c ∧ (0 < len → ∃ g, a = some ⟨g, 0, none⟩ ∧ w.heap.size ≤ g ∧ ∀ t, t < len → w'.cell? ⟨g, t, none⟩ = some (.int .i64 ((ordL zs).getD t 0 : Nat)))
theorem grownBy_row {α : Type} [Inhabited α] (enc : α → Value) {w : World} {g n : Nat} {os : Array Obj} (d : Array α) : w.grownBy (grow (Sort.putRow enc (Sort.ahead w n) g 0 d) os) (some g) := by
  refine ⟨rfl, rfl, rfl, by simp, fun k hk hne => ?_⟩
  rw [heap_grow_old _ _ (by simpa using hk)]
  have : g ≠ k := fun e => hne (by rw [e])
  simp [Sort.putRow, mapBlock, Sort.ahead, Array.getElem?_modify, this]
theorem grownBy_grow {w : World} {os : Array Obj} : w.grownBy (grow w os) none :=
  ⟨rfl, rfl, rfl, by simp, fun k hk _ => heap_grow_old _ _ hk⟩
theorem ordL_length_le (zs : List Int) (h : zs.length ≤ 1) : ordL zs = List.range zs.length := by
  match zs, h with
  | [], _ => rfl
  | [x], _ => rfl

set_option maxHeartbeats 1000000 in
theorem Try.order_any (a : Option Addr) (len cap : Nat) (zs : List Int) (w : World) (h20 : len ≤ 20) (hz : zs.length = len) (ha : 0 < len → ∃ b o, a = some ⟨b, o, none⟩ ∧ ∀ t, t < len → w.cell? ⟨b, o + t, none⟩ = some (.int .i64 (zs.getD t 0))) :
    Calls Try.prog 11 #[.slice a len cap] w fun e w' => ∃ v, e = .returned v ∧ OrderEnd w len zs v w' := by
  refine Try.order_gen a len cap w h20 (OrderEnd w len zs) fun v wr H => ?_
  have hmf : 0 = 0 := rfl
  rcases Nat.lt_or_ge len 2 with h1 | h2
  · -- nothing is sorted
    obtain ⟨p, c, rfl⟩ : ∃ p c, v = .slice p len c := by
      obtain ⟨_, ⟨h0, h0'⟩ | ⟨g, cp, cur, h0, _⟩⟩ := H.own
      · exact ⟨none, 0, by rw [h0, h0']⟩
      · exact ⟨_, cp, h0⟩
    have hS : Calls Try.prog 13 #[.iface 23 (.slice p len c), .func (.func 14) #[] #[.pointer (some ⟨w.heap.size, 0, none⟩), .pointer (some ⟨w.heap.size + 1, 0, none⟩)]] wr fun e w' => e = .returned (.tuple #[]) ∧ ∃ os, w' = grow wr os := by
      rcases (show len = 0 ∨ len = 1 by omega) with rfl | rfl
      · exact Any.sort_SliceStable_tiny Try.sl8 23 3 Try.siT Try.siE (by kernel_rfl) (by kernel_rfl) (by kernel_rfl) (by kernel_rfl) 2 (fun _ => by kernel_rfl) p 0 c (by omega) 19 (by kernel_rfl) (.func 14) #[] #[.pointer (some ⟨w.heap.size, 0, none⟩), .pointer (some ⟨w.heap.size + 1, 0, none⟩)] wr
      · exact Any.sort_SliceStable_tiny Try.sl8 23 3 Try.siT Try.siE (by kernel_rfl) (by kernel_rfl) (by kernel_rfl) (by kernel_rfl) 2 (fun _ => by kernel_rfl) p 1 c (by omega) 20 (by kernel_rfl) (.func 14) #[] #[.pointer (some ⟨w.heap.size, 0, none⟩), .pointer (some ⟨w.heap.size + 1, 0, none⟩)] wr
    refine hS.mono ?_
    rintro e w' ⟨rfl, os, rfl⟩
    have hsz := H.size
    refine ⟨rfl, (cell?_grow wr os _ (by show w.heap.size + 1 < _; omega)).trans H.out, H.below.grown grownBy_grow (by omega) (fun k e => by cases e), ?_⟩
    obtain ⟨_, ⟨h0, h0'⟩ | ⟨g, cp, cur, h0, hg, hcur, hn, _, _, htake⟩⟩ := H.own
    · exact ⟨_, _, rfl, by injection h0 with _ _ e; omega, fun hp => by omega⟩
    · injection h0 with e1 e2 e3; subst e1; subst e3
      refine ⟨_, _, rfl, hn, fun hp => ⟨g, rfl, by omega, fun t ht => ?_⟩⟩
      have hlen : len = 1 := by omega
      subst hlen
      have ht0 : t = 0 := by omega
      subst ht0
      rw [cell?_grow wr os _ (heap_lt hcur)]
      have h3 : cur[0]? = some (.int .i64 (0 : Nat)) := by
        have := congrArg (·[0]?) htake
        simpa [upTo, List.getElem?_take] using this
      rw [ordL_length_le zs (by omega), hz]
      simp only [World.cell?, hcur]
      simpa using h3
  · -- a row to be sorted
    obtain ⟨_, ⟨_, h0'⟩ | ⟨g, cp, cur, rfl, hg, hcur, hn, hm, hcs, htake⟩⟩ := H.own
    · omega
    obtain ⟨b, o, rfl, hcell⟩ := ha (by omega)
    have : NeZero len := ⟨by omega⟩
    let enc : Fin len → Value := fun i => .int .i64 (i.val : Nat)
    let lt : Fin len → Fin len → Bool := fun a b => ordLt zs a.val b.val
    let d : Array (Fin len) := Array.ofFn fun i => i
    have hd : d.size = len := by simp [d]
    have hgl : g < wr.heap.size := heap_lt hcur
    have hbl : b < w.heap.size := World.block_lt_of_cell? w _ (hcell 0 (by omega))
    have hsz := H.size
    have hcu : ∀ t, t < len → cur[t]? = some (.int .i64 (t : Nat)) := fun t ht => by
      have := congrArg (·[t]?) htake
      simp only [Nat.mul_one] at this
      rw [List.getElem?_take_of_lt ht] at this
      rw [← Array.getElem?_toList, this]
      simp [upTo, ht]
    have hgd : ∀ (dk : Array (Fin len)) (t : Nat), t < dk.size → ∃ i, dk[t]? = some i ∧ dk[t]! = i := fun dk t ht => ⟨dk[t], Array.getElem?_eq_getElem ht, getElem!_pos dk t ht⟩
    have hH : Holds enc wr g 0 d := fun j hj => by
      have hj' : j < len := by omega
      have hdj : d[j]! = ⟨j, hj'⟩ := by rw [getElem!_pos d j hj]; simp [d]
      refine ⟨?_, ?_⟩
      · rw [hdj]; simp only [World.cell?, hcur]; simpa [enc] using hcu j hj'
      · simp [World.frozen?, hcur]
    have hless : LessReads Try.prog 14 #[.pointer (some ⟨w.heap.size, 0, none⟩), .pointer (some ⟨w.heap.size + 1, 0, none⟩)] enc lt g 0 d.size wr := by
      intro m os dk hs i j hi hj
      have e0 : ∀ x : Addr, x.block < wr.heap.size → x.block ≠ g → (sortWorld enc wr g 0 m dk os).cell? x = wr.cell? x := fun x hx hne => by
        unfold sortWorld
        rw [cell?_grow _ _ _ (by simpa using hx), cell?_putRow_other _ _ g 0 dk _ (Or.inl hne)]
        rfl
      have e1 : ∀ t, t < len → (sortWorld enc wr g 0 m dk os).cell? ⟨g, 0 + t, none⟩ = some (.int .i64 ((dk[t]!).val : Nat)) := fun t ht => by
        unfold sortWorld
        rw [cell?_grow _ _ _ (by simpa using hgl)]
        exact cell?_putRow enc (Sort.ahead wr m) g 0 d dk (holds_ahead _ _ _ _ _ _ hH) hs t (by omega)
      have hl := Try.less_any b o len cap g 0 len cp w.heap.size (w.heap.size + 1) (sortWorld enc wr g 0 m dk os) (fun t => zs.getD t 0) (fun t => (dk[t]!).val)
        ((e0 _ (by show w.heap.size < _; omega) (by show w.heap.size ≠ g; omega)).trans H.ids) ((e0 _ (by show w.heap.size + 1 < _; omega) (by show w.heap.size + 1 ≠ g; omega)).trans H.out)
        (fun t ht => by rw [e0 _ (by show b < _; omega) (by show b ≠ g; omega), H.below.cell (show b < _ from hbl)]; exact hcell t ht)
        (fun t _ => (dk[t]!).isLt) e1 i j (by omega) (by omega) (by omega) (by omega)
      refine hl.mono ?_
      rintro e w' ⟨rfl, q, rfl⟩
      exact ⟨rfl, q, rfl⟩
    have hS := Any.sort_SliceStable_small Try.sl8 23 3 Try.siT Try.siE (by kernel_rfl) (by kernel_rfl) (by kernel_rfl) (by kernel_rfl) 2 (fun _ => by kernel_rfl) (by kernel_rfl) (fun _ => by kernel_rfl) enc (fun _ => rfl) lt 14 _
      (enters_of Try.func14 (by kernel_rfl) rfl) g 0 cp d (by omega) (by omega) 23 (by rw [Try.siK _ (by omega)]; kernel_rfl) true
      (fun args W => run_callFunc_extern Try.func23 (by kernel_rfl) (by kernel_rfl) (by kernel_rfl) (e := Extern.ReflectliteSwapper.swap true) (by kernel_rfl) args W) _ hless hH hgl
    change Calls Try.prog 13 _ _ _ at hS
    rw [hd] at hS
    refine hS.mono ?_
    rintro e w' ⟨rfl, n, os, rfl⟩
    have hgrown := grownBy_row enc (w := wr) (g := g) (n := n) (os := os) (Sort.insertionSort lt d 0 len)
    have hins : (Sort.insertionSort lt d 0 len).toList.map Fin.val = ordL zs := by
      have h1 := insertionSort_list (lt := lt) d
      rw [hd] at h1
      rw [h1, insAll_map (lt' := ordLt zs) Fin.val (fun _ _ => rfl)]
      unfold ordL
      rw [hz]
      have hr : d.toList.map Fin.val = List.range len := by
        apply List.ext_getElem?
        intro t
        by_cases ht : t < len
        · rw [List.getElem?_map, Array.getElem?_toList, List.getElem?_range ht]
          simp [d, ht]
        · rw [List.getElem?_eq_none (by simp [d]; omega), List.getElem?_eq_none (by simp; omega)]
      rw [hr]
    have hsl : (Sort.insertionSort lt d 0 len).size = len := by
      rw [← Array.length_toList, ← List.length_map (f := Fin.val), hins]
      have := insertionSort_list (lt := ordLt zs) (List.range zs.length).toArray
      unfold ordL insAll
      have hl : ∀ (l q : List Nat), (l.foldl (fun q x => insRev (ordLt zs) x q) q).length = q.length + l.length := by
        intro l
        induction l with
        | nil => intro q; simp
        | cons x l ih =>
          intro q
          have hlen : ∀ q : List Nat, (insRev (ordLt zs) x q).length = q.length + 1 := by
            intro q; induction q with
            | nil => rfl
            | cons y q ih => simp only [insRev]; split <;> simp [ih]
          rw [List.foldl_cons, ih, hlen]; simp; omega
      rw [List.length_reverse, hl]; simp [hz]
    refine ⟨rfl, hgrown.cell H.out (by simp; omega), H.below.grown hgrown (by omega) (fun k e => by injection e with e; omega), _, _, rfl, hn, fun _ => ⟨g, rfl, by omega, fun t ht => ?_⟩⟩
    rw [cell?_grow _ _ _ (by simpa using hgl)]
    have := cell?_putRow enc (Sort.ahead wr n) g 0 d (Sort.insertionSort lt d 0 len) (holds_ahead _ _ _ _ _ _ hH) (by rw [hsl, hd]) t (by omega)
    rw [Nat.zero_add] at this
    rw [this]
    congr 2
    obtain ⟨i, h1, h2⟩ := hgd (Sort.insertionSort lt d 0 len) t (by omega)
    rw [h2, ← hins, List.getD_eq_getElem?_getD, List.getElem?_map, Array.getElem?_toList, h1]
    rfl
end Go.Proofs
namespace Go.Dn.Field
def cutT : List (Nat × List (Nat × List Nat)) :=
  [(3, [(27, [0, 1, 18])]),
  (4, [(703, [0, 3, 4, 5, 6]), (959679, [0, 3, 4, 5, 6, 7]), (58559, [0, 3, 4, 5, 6, 7]), (3583, [0, 8, 81]), (22527, [0, 8, 10, 11]), (235519, [0, 8, 10, 11]), (180223, [8, 12, 13]), (6602751, [8, 12, 13, 162])]),
  (6, [(175, [0, 3, 4]), (2815, [3, 5, 6, 7]), (201471, [3, 5, 6, 7, 61]), (496383, [3, 5, 6, 7, 116])]),
  (8, [(87, [2, 4, 5, 6, 12, 13, 14]), (27031, [2, 4, 5, 6, 8, 12, 13, 14, 29]), (63895, [2, 4, 5, 6, 8, 9, 12, 13, 14]), (227735, [2, 4, 5, 6, 8, 9, 12, 13, 14, 46])]),
  (9, [(87, [0, 4, 5, 6]), (437399, [0, 4, 5, 6, 38]), (15511, [0, 4, 5, 6, 7]), (89239, [0, 4, 5, 6, 7, 8]), (3300503, [0, 4, 5, 6, 7, 8, 67])]),
  (10, [(43, [0, 1, 5])]),
  (12, [(43, [0, 3, 4]), (4683, [0, 3, 4, 5]), (49739, [0, 3, 4, 5, 29])])]
def cut (k : Nat) (p : List Bool) : Option (List Nat) := (cutT.lookup k).bind fun l => l.lookup (p.foldl (fun n b => 2 * n + b.toNat) 1)
end Go.Dn.Field
namespace Go.Dn
/-- Whole numbers of one kind. -/
def unInts (k : IntKind) : List D → Option (List Int)
  | [] => some []
  | .i j n :: xs => if j = k then (unInts k xs).map (n :: ·) else none
  | _ => none
theorem unInts_ints {k : IntKind} : ∀ {xs : List D} {zs : List Int}, unInts k xs = some zs → xs = ints k zs
  | [], zs, h => by simp [unInts] at h; subst h; rfl
  | .i j n :: xs, zs, h => by
    simp only [unInts] at h
    split at h
    · rename_i e; subst e
      obtain ⟨l, hl, rfl⟩ := Option.map_eq_some_iff.1 h
      rw [unInts_ints hl]; rfl
    · cases h
  | .b _ :: _, _, h => by simp [unInts] at h
  | .s _ :: _, _, h => by simp [unInts] at h
  | .l _ _ :: _, _, h => by simp [unInts] at h
  | .g _ :: _, _, h => by simp [unInts] at h
theorem unInts_of (k : IntKind) : ∀ zs : List Int, unInts k (ints k zs) = some zs
  | [] => rfl
  | z :: zs => by
    have := unInts_of k zs
    simp only [ints] at this
    simp [ints, unInts, this]
namespace Field
def orderExt (args : List V) (S : List Ob) : Option Out :=
  match args with
  | [.d (.l _ xs)] => match unInts .i64 xs with
    | some zs => if zs.length ≤ 20 then some (.d (.l false (ints .i64 ((ordL zs).map fun n : Nat => (n : Int)))), S) else none
    | none => none
  | _ => none
theorem orderExt_good {args : List V} {S : List Ob} {o : Out} (h : orderExt args S = some o) : GoodCall Proofs.Try.prog 11 args S o := by
  unfold orderExt at h
  split at h
  rotate_left
  · cases h
  rename_i full xs
  split at h
  rotate_left
  · cases h
  rename_i zs hzs
  split at h
  rotate_left
  · cases h
  rename_i h20
  injection h with h; subst h
  have hx := unInts_ints hzs
  subst hx
  refine GoodCall.of_below fun w G vs hI hr => ?_
  obtain ⟨v, hv, hr1⟩ := RVs.get hr (i := 0) rfl
  have hl := RVs.length hr
  simp only [RV] at hr1
  obtain ⟨a, c, rfl, hc, hcell⟩ := RD_ints hI hr1
  have hvs : vs = #[.slice a zs.length c] := by
    apply Array.ext'
    match hvs : vs.toList, hl, hv with
    | [x], _, hv => simp at hv; subst hv; rfl
  subst hvs
  have hC := Proofs.Try.order_any a zs.length c zs w h20 rfl hcell
  refine Answers.of_calls Proofs.Try.func11 (by kernel_rfl) (by decide +kernel) (hC.mono ?_)
  rintro e w' ⟨x, rfl, hbel, a', c', rfl, hc', hcell'⟩
  refine ⟨_, rfl, hbel, ?_⟩
  have hol : (ordL zs).length = zs.length := by
    unfold ordL insAll
    have hl : ∀ (l q : List Nat), (l.foldl (fun q x => insRev (ordLt zs) x q) q).length = q.length + l.length := by
      intro l
      induction l with
      | nil => intro q; simp
      | cons x l ih =>
        intro q
        have hlen : ∀ q : List Nat, (insRev (ordLt zs) x q).length = q.length + 1 := by
          intro q; induction q with
          | nil => rfl
          | cons y q ih => simp only [insRev]; split <;> simp [ih]
        rw [List.foldl_cons, ih, hlen]; simp; omega
    rw [List.length_reverse, hl]; simp
  simp only [RV, RD]
  refine ⟨a', zs.length, c', 1, rfl, by rw [ints_length]; simp [hol], hc', by simp, sized_ints _ _, fun hne => ?_⟩
  have hp : 0 < zs.length := by
    rcases Nat.eq_zero_or_pos zs.length with h0 | h0
    · exact absurd (List.length_eq_zero_iff.1 (by rw [ints_length]; simp [hol, h0])) hne
    · exact h0
  obtain ⟨g, rfl, hg, hcl⟩ := hcell' hp
  refine ⟨g, 0, rfl, RElems_ints fun i hi => ?_⟩
  have hi' : i < zs.length := by simpa [hol] using hi
  simp only [growF, if_neg (Nat.not_lt.2 hg), Nat.zero_add]
  rw [hcl i hi']
  simp [List.getD_eq_getElem?_getD, hol, hi']
noncomputable def pol : Pol := { cut := cut, app := fun k r i => if k = 12 ∧ r = 8 ∧ i = 4 then 0 else 2, flg := fun _ _ _ => [], ext := fun k => if k = 11 then some orderExt else none }
theorem extOk : ExtOk Proofs.Try.prog pol := by
  intro k g hg args S o ho
  simp only [pol] at hg
  split at hg
  · rename_i e; subst e
    injection hg with hg; subst hg
    exact orderExt_good ho
  · cases hg
theorem mixed : Proofs.Try.prog.follows .mixedOrders = true := by kernel_rfl
theorem names : (Proofs.Try.prog.funcs.toList.all fun f => f.name != "runtime.NumGoroutine") = true := by kernel_rfl
theorem hname (k : Nat) (fn : Func) (h : Proofs.Try.prog.funcs[k]? = some fn) : fn.name ≠ "runtime.NumGoroutine" := by
  have h1 : fn ∈ Proofs.Try.prog.funcs.toList := by rw [← Array.getElem?_toList] at h; exact List.mem_of_getElem? h
  have := List.all_eq_true.1 names fn h1
  simpa using this
theorem forms_run : run Proofs.Try.prog pol (.call 5 [] []) = some (.d (.b true), []) := run_some.2 ⟨100, by kernel_rfl⟩
theorem forms_calls (W : World) : Calls Proofs.Try.prog 5 #[] W fun e W' => e = .returned (.bool true) ∧ RowKit.Below W.heap.size W W' :=
  run_row mixed extOk hname Proofs.Try.func5 (by kernel_rfl) forms_run (by simp only [RVs]) fun _ _ h => RD_true h
end Field
end Go.Dn
