/- Regions: what holds behind whatever operations have come up. -/
import Derived.Test.YtbjllhjbhdjfjaaGreatDoorP2
import Derived.Control
import Derived.Below
namespace Go.Dn
set_option linter.unusedVariables false
set_option linter.unusedSimpArgs false
section
variable {P : Program} {pol : Pol}
theorem eval1_len {f : Task → Option Out} {k r i : Nat} {ops : List Oper} {vals : List V} {fl : Fl} {S S' : List Ob} {o : Oper} {v : V} (h : interp f (eval1 P pol k r i ops vals fl S o) = some (v, S')) : S.length ≤ S'.length := by
 unfold eval1 at h
 split at h
 ·-- box
  simp only [interp_ob, Option.bind_eq_some_iff, interp, Option.some.injEq] at h
  obtain ⟨sz, hsz, vx, hvx, r', hr', e⟩ := h
  subst e
  have hn : ∀ {t cs fl}, o_new S t fl cs = some (v, S') → S.length ≤ S'.length := by
   intro t cs fl h
   unfold o_new at h
   split at h
   ·simp at h; rw [← h.2]; simp
   ·simp at h
  unfold o_box at hr'
  split at hr'
  ·split at hr'
   ·exact hn hr'
   ·simp at hr'
  ·split at hr'
   ·exact hn hr'
   ·simp at hr'
 ·-- store
  simp only [interp_ob, Option.bind_eq_some_iff, interp, Option.some.injEq, Prod.mk.injEq] at h
  obtain ⟨g, hg, sz, hsz, va, hva, vx, hvx, S1, hS1, rfl, rfl⟩ := h
  unfold o_store at hS1
  split at hS1
  rotate_left
  ·simp at hS1
  split at hS1
  rotate_left
  ·simp at hS1
  split at hS1
  ·split at hS1
   rotate_left
   ·simp at hS1
   split at hS1
   rotate_left
   ·simp at hS1
   injection hS1 with hS1; subst hS1; rw [oset_length]; exact Nat.le_refl _
  ·split at hS1
   rotate_left
   ·simp at hS1
   injection hS1 with hS1; subst hS1; rw [oset_length]; exact Nat.le_refl _
 ·split at h
  ·simp only [interp, Option.some.injEq] at h
   obtain ⟨rfl, rfl⟩ := Prod.mk.inj h
   simp
  ·simp [interp] at h
 ·simp only [interp_ob, Option.bind_eq_some_iff, interp_ift] at h
  obtain ⟨e, he, z, hz, h⟩ := h
  split at h
  rotate_left
  ·simp at h
  split at h
  ·simp only [interp_ob, Option.bind_eq_some_iff, interp, Option.some.injEq, Prod.mk.injEq] at h
   obtain ⟨vn, hvn, vc, hvc, v', hv', rfl, rfl⟩ := h
   exact Nat.le_refl _
  ·simp only [interp_ob, Option.bind_eq_some_iff, interp, Option.some.injEq] at h
   obtain ⟨vn, hvn, vc, hvc, r', hr', e'⟩ := h
   subst e'
   unfold o_makeM at hr'
   split at hr'
   ·split at hr'
    ·simp at hr'; rw [← hr'.2]; simp
    ·simp at hr'
   ·simp at hr'
  ·simp [interp] at h
 ·split at h
  ·simp only [interp_ob, Option.bind_eq_some_iff] at h
   obtain ⟨vx, hvx, h⟩ := h
   split at h
   ·simp only [interp, Option.some.injEq] at h
    obtain ⟨rfl, rfl⟩ := Prod.mk.inj h
    simp
   ·simp [interp] at h
  ·simp [interp] at h
 ·simp only [interp_ob, Option.bind_eq_some_iff, interp, Option.some.injEq] at h
  obtain ⟨vx, hvx, r', hr', e'⟩ := h
  subst e'
  unfold o_next at hr'
  split at hr'
  ·split at hr'
   ·split at hr'
    ·simp at hr'; rw [← hr'.2, oset_length]; exact Nat.le_refl _
    ·simp at hr'; rw [← hr'.2]; exact Nat.le_refl _
   ·simp at hr'
  ·simp at hr'
 ·split at h
  ·simp only [interp_ob, Option.bind_eq_some_iff, interp_ift] at h
   obtain ⟨vm, hvm, vk, hvk, vx, hvx, kd, hkd, h⟩ := h
   split at h
   rotate_left
   ·simp at h
   simp only [interp, Option.bind_eq_some_iff, Option.some.injEq, Prod.mk.injEq] at h
   obtain ⟨S1, hS1, rfl, rfl⟩ := h
   unfold o_mapUpdate at hS1
   split at hS1
   ·split at hS1
    ·split at hS1
     ·injection hS1 with hS1; subst hS1; rw [oset_length]; exact Nat.le_refl _
     ·simp at hS1
    ·simp at hS1
   ·simp at hS1
  ·simp [interp] at h
 ·split at h
  ·split at h
   ·simp only [interp_ob, Option.bind_eq_some_iff] at h
    obtain ⟨vx, hvx, h⟩ := h
    split at h
    ·simp only [interp_ift] at h
     split at h
     rotate_left
     ·simp at h
     split at h
     ·simp only [interp, Option.some.injEq] at h
      obtain ⟨rfl, rfl⟩ := Prod.mk.inj h; exact Nat.le_refl _
     ·simp only [interp, Option.some.injEq] at h
      obtain ⟨rfl, rfl⟩ := Prod.mk.inj h; simp
     ·simp [interp] at h
    ·simp [interp] at h
   ·simp [interp] at h
  ·simp [interp] at h
 ·split at h
  ·split at h
   rotate_left
   ·simp [interp] at h
   simp only [interp_ob, Option.bind_eq_some_iff, interp_ift] at h
   obtain ⟨e, he, sz, hsz, bx, hbx, vy, hvy, h⟩ := h
   split at h
   rotate_left
   ·simp at h
   split at h
   ·simp only [interp_ob, Option.bind_eq_some_iff, interp, Option.some.injEq, Prod.mk.injEq] at h
    obtain ⟨v', hv', rfl, rfl⟩ := h; exact Nat.le_refl _
   ·simp only [interp_ift, interp_ob] at h
    split at h
    rotate_left
    ·simp at h
    simp only [Option.bind_eq_some_iff, interp, Option.some.injEq] at h
    obtain ⟨r', hr', e'⟩ := h
    subst e'
    unfold o_appendM at hr'
    split at hr'
    ·split at hr'
     ·split at hr'
      ·simp at hr'; rw [← hr'.2]; simp
      ·simp at hr'
     ·simp at hr'
    ·simp at hr'
   ·simp only [interp_ift, interp_ob, Option.bind_eq_some_iff, interp] at h
    obtain ⟨q, hq, h⟩ := h
    split at h
    rotate_left
    ·simp at h
    simp only [Option.bind_eq_some_iff, Option.some.injEq, Prod.mk.injEq] at h
    obtain ⟨v', hv', rfl, rfl⟩ := h; exact Nat.le_refl _
   ·simp only [interp_ift, interp_ob, Option.bind_eq_some_iff, interp] at h
    obtain ⟨q, hq, ⟨z, S1⟩, hun, h⟩ := h
    split at h
    rotate_left
    ·simp at h
    simp only [Option.bind_eq_some_iff, Option.some.injEq, Prod.mk.injEq] at h
    obtain ⟨v', hv', rfl, rfl⟩ := h
    unfold untok at hun
    split at hun
    rotate_left
    ·simp at hun
    split at hun
    rotate_left
    ·simp at hun
    split at hun
    rotate_left
    ·simp at hun
    injection hun with hun; injection hun with _ hun; subst hun
    rw [oset_length]; exact Nat.le_refl _
   ·simp [interp] at h
  ·simp only [interp_ob, Option.bind_eq_some_iff] at h
   obtain ⟨args, hargs, vf, hvf, h⟩ := h
   split at h
   rotate_left
   ·simp [interp] at h
   rename_i g caps
   simp only [interp_ift] at h
   split at h
   rotate_left
   ·simp at h
   rename_i hrb
   simp only [decide_eq_true_eq] at hrb
   rw [interp_call] at h
   obtain ⟨out, hout, h⟩ := Option.bind_eq_some_iff.1 h
   simp only [interp_ob, Option.bind_eq_some_iff, interp, Option.some.injEq] at h
   obtain ⟨r2, hj, e⟩ := h
   subst e
   obtain ⟨sh1, _⟩ := joinC_shape hj
   rcases sh1 with ⟨h3, h4⟩ | ⟨cs, fl', S1, h3, h4, _, h5⟩
   ·simp only at h4; rw [h4]; simp [topS_length hrb, h3]; omega
   ·simp only at h5; rw [h5]; simp [topS_length hrb, h4]; omega
  ·simp [interp] at h
 ·simp [interp] at h
structure Rg (P : Program) (pol : Pol) (f : Task → Option Out) (k r : Nat) (ops : List Oper) (S0 S1 : List Ob) (vs : Nat → List V) (fls : Nat → Fl) (Ss : Nat → List Ob) (ids : Nat → Nat) (rv : Nat → V) : Prop where
 tr : Trace P pol f k r ops ops 0 vs fls Ss ids rv
 s0 : Ss 0 = S1
 id0 : ids 0 = S0.length
 len1 : S1.length = S0.length + cnt ops ops.length
 old : ∀ id, id < S0.length → oget S1 id = oget S0 id
 al : ∀ j o, ops[j]? = some o → isAlloc o = true → ∃ x, NewAt P ops (vs 0) o x ∧ oget S1 (S0.length + cnt ops j) = some x
 draw : drawOk P S1.length (fls 0) ops (vs ops.length) = true
 steal : stealsOk P pol S0.length k r true ops (vs ops.length) = true
section
variable {f : Task → Option Out} {k r : Nat} {ops : List Oper} {S0 S1 : List Ob} {vs : Nat → List V} {fls : Nat → Fl} {Ss : Nat → List Ob} {ids : Nat → Nat} {rv : Nat → V}
theorem Rg.ids_eq (h : Rg P pol f k r ops S0 S1 vs fls Ss ids rv) : ∀ j, j ≤ ops.length → ids j = S0.length + cnt ops j
 | 0, _ => by rw [h.id0, cnt_zero]; rfl
 | j + 1, hj => by
  have ho := List.getElem?_eq_getElem (show j < ops.length by omega)
  rw [h.tr.ids j _ ho, cnt_succ ho, h.ids_eq j (by omega)]
  split <;> rfl
theorem Rg.len (h : Rg P pol f k r ops S0 S1 vs fls Ss ids rv) : ∀ j, j ≤ ops.length → S1.length ≤ (Ss j).length
 | 0, _ => by rw [h.s0]; exact Nat.le_refl _
 | j + 1, hj => by
  have ho := List.getElem?_eq_getElem (show j < ops.length by omega)
  refine Nat.le_trans (h.len j (by omega)) ?_
  have hst := h.tr.step j _ ho
  generalize ops[j] = o at hst
  generalize hSS : Ss (j + 1) = T at hst
  generalize hr : rv j = v at hst
  cases hst with
  | alloc ha => exact Nat.le_refl _
  | pure ha hg he hp => exact Nat.le_refl _
  | eff ha hg he hp =>
   unfold eval1G at hp
   split at hp
   ·exact eval1_len hp
   ·split at hp
    ·unfold gdE at hp
     split at hp
     ·split at hp
      ·exact eval1_len hp
      ·simp only [interp, Option.some.injEq, Prod.mk.injEq] at hp; rw [hp.2]; exact Nat.le_refl _
     ·simp only [interp, Option.some.injEq, Prod.mk.injEq] at hp; rw [hp.2]; exact Nat.le_refl _
     ·simp [interp] at hp
    ·simp [interp] at hp
theorem draw_spec {n1 : Nat} {fl : Fl} {vals : List V} (h : drawOk P n1 fl ops vals = true) {j : Nat} {y : Oper} (hy : ops[j]? = some y) :
  (∀ e ∈ y.after.toList, Region.binds .any e = true → e.on < j) ∧
  (∀ t, y.op = .assign (.tmp t) → ∀ o ∈ ops, o.dst = some t → ∀ x, o.op ≠ .assign x) ∧ (∀ cs b, y.op ≠ .select cs b) ∧ (∀ d, isAlloc y = true → y.dst = some d → mayTok fl ops d = false) ∧
  ∀ i x, i < j → ops[i]? = some x → orderOk P n1 fl ops vals (befs ops []) x y i j = true := by
 unfold drawOk at h
 have h1 := List.all_eq_true.1 h (y, j) (List.mem_zipIdx_iff_getElem?.2 hy)
 simp only [Bool.and_eq_true] at h1
 obtain ⟨⟨⟨h1, h2⟩, h4⟩, h3⟩ := h1
 refine ⟨fun e he hb => ?_, fun t ht o ho hd x hx => ?_, fun cs b hs => ?_, fun d ht hd => ?_, fun i x hi hx => ?_⟩
 ·rw [Array.all_eq_true_iff_forall_mem] at h1
  have := h1 e (by simpa using he)
  simpa [hb] using this
 ·rw [ht] at h2
  have := List.all_eq_true.1 h2 o ho
  simp [hd, hx] at this
 ·rw [hs] at h2; simp at h2
 ·rw [ht] at h4; simpa [hd] using h4
 ·have := List.all_eq_true.1 h3 (x, i) (List.mem_zipIdx_iff_getElem?.2 (by rw [List.getElem?_take_of_lt hi]; exact hx))
  exact this
end
end
end Go.Dn
namespace Go.Dn
set_option linter.unusedVariables false
set_option linter.unusedSimpArgs false
section
variable {P : Program} {pol : Pol}
theorem getD_putV (dst : Option Nat) (v : V) (vals : List V) (t : Nat) : (putV dst v vals).getD t .u = if dst = some t ∧ t < vals.length then v else vals.getD t .u := by
 cases dst with
 | none => simp [putV]
 | some d =>
  simp only [putV, List.getD_eq_getElem?_getD, List.getElem?_set]
  by_cases e : d = t
  ·subst e
   by_cases h : d < vals.length
   ·simp [h]
   ·simp [h, List.getElem?_eq_none (Nat.le_of_not_lt h)]
  ·simp [e]
theorem putV_length (dst : Option Nat) (v : V) (vals : List V) : (putV dst v vals).length = vals.length := by cases dst <;> simp [putV]
section
variable {f : Task → Option Out} {k r : Nat} {ops : List Oper} {S0 S1 : List Ob} {vs : Nat → List V} {fls : Nat → Fl} {Ss : Nat → List Ob} {ids : Nat → Nat} {rv : Nat → V}
def Wr (ops : List Oper) (j t : Nat) : Prop := ∃ o, ops[j]? = some o ∧ o.dst = some t
def Ef (P : Program) (fl : Fl) (ops : List Oper) (j : Nat) : Prop := ∃ o, ops[j]? = some o ∧ cls P fl ops o = 3
theorem Rg.vlen (h : Rg P pol f k r ops S0 S1 vs fls Ss ids rv) : ∀ j, j ≤ ops.length → (vs j).length = (vs 0).length
 | 0, _ => rfl
 | j + 1, hj => by
  have ho := List.getElem?_eq_getElem (show j < ops.length by omega)
  rw [h.tr.vs j _ ho, putV_length, h.vlen j (by omega)]
theorem Rg.vs_same (h : Rg P pol f k r ops S0 S1 vs fls Ss ids rv) {t a : Nat} : ∀ b, a ≤ b → b ≤ ops.length → (∀ j, a ≤ j → j < b → ¬Wr ops j t) → (vs b).getD t .u = (vs a).getD t .u
  | 0, hab, _, _ => by have : a = 0 := by omega
                       subst this; rfl
  | b + 1, hab, hb, hn => by
    rcases Nat.lt_or_ge b a with hlt | hge
    · have : a = b + 1 := by omega
      subst this; rfl
    · have ho := List.getElem?_eq_getElem (show b < ops.length by omega)
      rw [h.tr.vs b _ ho, getD_putV, if_neg]
      · exact h.vs_same b hge (by omega) fun j h1 h2 => hn j h1 (by omega)
      · intro hc; exact hn b hge (by omega) ⟨_, ho, hc.1⟩
structure Hold (P : Program) (pol : Pol) (k r : Nat) (ops : List Oper) (n0 : Nat) (vals : List V) (i t q id off : Nat) : Prop where
 old : id < n0
 addr : vals.getD q .u = .p id off
 there : ∃ j e, j < i ∧ ops[j]? = some e ∧ e.dst = some t
 early : ∀ j e, ops[j]? = some e → early (befs ops []) true i j = true → effects P e = true → spares P vals id off 1 e = true ∧ steady ops e j = true
 copy : ∀ j e, ops[j]? = some e → e.dst = some t → steady ops e j = true ∧ e.guard = none ∧ ∃ ty, e.op = .load ty (.tmp q) ∧ tSize P ty = some 1 ∧ tAgg P ty = some false
structure RI (P : Program) (pol : Pol) (k r : Nat) (ops : List Oper) (S0 S1 : List Ob) (vs : Nat → List V) (fls : Nat → Fl) (Ss : Nat → List Ob) (ids : Nat → Nat) (w0 : World) (G0 : Sg) (a0 : Act) (L : Nat → Prop) (a : Act) (w : World) (G : Sg) (vals : List V) (m : Nat) : Prop where
 inv : Inv w G (Ss m)
 ext : Ext w0 G0 S0 w G (Ss m)
 fr : Fr G vals a
 vl : vals.length = (vs 0).length
 sz : a.tmps.size = a0.tmps.size
 df : a.defers = a0.defers
 cur : ∀ t b, b ≤ ops.length → (∀ j, j < b → Wr ops j t → L j) → (∀ j, b ≤ j → Wr ops j t → ¬L j) → vals.getD t .u = (vs b).getD t .u
 m_le : m ≤ ops.length
 pre1 : ∀ j, j < m → Ef P (fls 0) ops j → L j
 pre2 : ∀ j, m ≤ j → Ef P (fls 0) ops j → ¬L j
 tok : Toks w G a (fls m)
 ph : ∀ j o, ops[j]? = some o → isAlloc o = true → ¬L j → (∀ b, G.own b ≠ some (.obj (ids j))) ∧ oget (Ss m) (ids j) = oget S1 (ids j)
 closed : Closed ops L
 c1 : ∀ t, (∀ j, Wr ops j t → ¬L j) → a.tmps.getD t undef = a0.tmps.getD t undef
 c2 : ∀ t q, t < a0.tmps.size → (∀ (j : Nat) (o : Oper), ops[j]? = some o → o.dst = some t → o.guard = none ∧ o.op = .move (.tmp q)) → (∃ j, Wr ops j t ∧ L j) → (∀ j, Wr ops j q → ¬L j) → a.tmps.getD t undef = a0.tmps.getD q undef
 c3 : ∀ i t q id off, Hold P pol k r ops S0.length (vs ops.length) i t q id off → ¬L i → ∀ b, G0.own b = some (.obj id) → w.cell? ⟨b, off, none⟩ = w0.cell? ⟨b, off, none⟩
 c4 : ∀ i t q id off, Hold P pol k r ops S0.length (vs ops.length) i t q id off → ¬L i → t < a0.tmps.size → (∃ j, Wr ops j t ∧ L j) → ∃ b, G0.own b = some (.obj id) ∧ w0.cell? ⟨b, off, none⟩ = some (a.tmps.getD t undef)
def Plus (L : Nat → Prop) (i : Nat) : Nat → Prop := fun j => L j ∨ j = i
variable {w0 : World} {G0 : Sg} {a0 : Act} {L : Nat → Prop} {a : Act} {w : World} {G : Sg} {vals : List V} {m : Nat}
structure Ready (ops : List Oper) (L : Nat → Prop) (i : Nat) (o : Oper) : Prop where
 at_ : ops[i]? = some o
 not : ¬L i
 deps : ∀ e ∈ o.after.toList, Region.binds .any e = true → L e.on
theorem pair_lt (h : Rg P pol f k r ops S0 S1 vs fls Ss ids rv) (hc : Closed ops L) {i : Nat} {o : Oper} (hr : Ready ops L i o) {j : Nat} {x : Oper} (hx : ops[j]? = some x) (hji : j < i) (hL : ¬L j) :
  apart ops x o = true ∧ orderOk P S1.length (fls 0) ops (vs ops.length) [] x o j i = true := by
 have ho := (draw_spec h.draw hr.at_).2.2.2.2 j x hji hx
 have hb : ((befs ops []).getD i 0).testBit j = false := by
  cases hb : ((befs ops []).getD i 0).testBit j with
  | false => rfl
  | true => exact absurd (bef_closed hc i o hr.at_ hr.deps j hb) hL
 unfold orderOk at ho ⊢
 rw [hb, Bool.false_or, Bool.and_eq_true] at ho
 refine ⟨ho.1, ?_⟩
 simp only [List.getD_nil, Nat.zero_testBit, Bool.false_or, Bool.and_eq_true]
 exact ho
theorem pair_gt (h : Rg P pol f k r ops S0 S1 vs fls Ss ids rv) (hc : Closed ops L) {i : Nat} {o : Oper} (hr : Ready ops L i o) {j : Nat} {y : Oper} (hy : ops[j]? = some y) (hij : i < j) (hL : L j) :
  apart ops o y = true ∧ orderOk P S1.length (fls 0) ops (vs ops.length) [] o y i j = true := by
 have ho := (draw_spec h.draw hy).2.2.2.2 i o hij hr.at_
 have hb : ((befs ops []).getD j 0).testBit i = false := by
  cases hb : ((befs ops []).getD j 0).testBit i with
  | false => rfl
  | true => exact absurd (bef_closed hc j y hy (hc j y hy hL) i hb) hr.not
 unfold orderOk at ho ⊢
 rw [hb, Bool.false_or, Bool.and_eq_true] at ho
 refine ⟨ho.1, ?_⟩
 simp only [List.getD_nil, Nat.zero_testBit, Bool.false_or, Bool.and_eq_true]
 exact ho
theorem apart_spec {x y : Oper} (h : apart ops x y = true) : (∀ d, x.dst = some d → d ∉ looks ops y ∧ y.dst ≠ some d) ∧ ∀ d, y.dst = some d → d ∉ looks ops x := by
 unfold apart at h
 rw [Bool.and_eq_true] at h
 refine ⟨fun d hd => ?_, fun d hd => ?_⟩
 ·have := h.1; rw [hd] at this; simpa using this
 ·have := h.2; rw [hd] at this; simpa using this
theorem looks_pre (h : Rg P pol f k r ops S0 S1 vs fls Ss ids rv) (hc : Closed ops L) {i : Nat} {o : Oper} (hr : Ready ops L i o) {t : Nat} (ht : t ∈ looks ops o) : (∀ j, j < i → Wr ops j t → L j) ∧ (∀ j, i ≤ j → Wr ops j t → ¬L j) := by
 refine ⟨fun j hj ⟨x, hx, hd⟩ => Classical.byContradiction fun hL => ?_, fun j hj ⟨y, hy, hd⟩ hL => ?_⟩
 ·exact ((apart_spec (pair_lt h hc hr hx hj hL).1).1 t hd).1 ht
 ·rcases Nat.lt_or_ge i j with hij | hij
  ·exact (apart_spec (pair_gt h hc hr hy hij hL).1).2 t hd ht
  ·have : j = i := by omega
   subst this; exact hr.not hL
theorem dst_pre (h : Rg P pol f k r ops S0 S1 vs fls Ss ids rv) (hc : Closed ops L) {i : Nat} {o : Oper} (hr : Ready ops L i o) {d : Nat} (hd : o.dst = some d) : (∀ j, j < i → Wr ops j d → L j) ∧ (∀ j, i ≤ j → Wr ops j d → ¬L j) := by
 refine ⟨fun j hj ⟨x, hx, hd'⟩ => Classical.byContradiction fun hL => ?_, fun j hj ⟨y, hy, hd'⟩ hL => ?_⟩
 ·exact ((apart_spec (pair_lt h hc hr hx hj hL).1).1 d hd').2 hd
 ·rcases Nat.lt_or_ge i j with hij | hij
  ·exact ((apart_spec (pair_gt h hc hr hy hij hL).1).1 d hd).2 hd'
  ·have : j = i := by omega
   subst this; exact hr.not hL
theorem ef_pre (h : Rg P pol f k r ops S0 S1 vs fls Ss ids rv) (hc : Closed ops L) {i : Nat} {o : Oper} (hr : Ready ops L i o) (he : cls P (fls 0) ops o = 3) : (∀ j, j < i → Ef P (fls 0) ops j → L j) ∧ (∀ j, i ≤ j → Ef P (fls 0) ops j → ¬L j) := by
 refine ⟨fun j hj ⟨x, hx, hd⟩ => Classical.byContradiction fun hL => ?_, fun j hj ⟨y, hy, hd⟩ hL => ?_⟩
 ·have := (pair_lt h hc hr hx hj hL).2
  unfold orderOk at this
  simp [hd, he] at this
 ·rcases Nat.lt_or_ge i j with hij | hij
  ·have := (pair_gt h hc hr hy hij hL).2
   unfold orderOk at this
   simp [hd, he] at this
  ·have : j = i := by omega
   subst this; exact hr.not hL
theorem mem_looks {o : Oper} {t : Nat} (h : Operand.tmp t ∈ o.op.operands.toList) : t ∈ looks ops o :=
 List.mem_append_left _ (List.mem_filterMap.2 ⟨_, h, rfl⟩)
theorem same_of_looks {vals vals' : List V} {o : Oper} (h : ∀ t ∈ looks ops o, vals.getD t .u = vals'.getD t .u) : Same vals vals' o := by
 intro x hx
 cases x with
 | tmp t => simp only [ev]; rw [h t (mem_looks hx)]
 | _ => rfl
theorem steady_spec {o : Oper} {j : Nat} (h : steady ops o j = true) {t : Nat} (ht : t ∈ looks ops o) : ∀ l, j ≤ l → ¬Wr ops l t := by
 rintro l hl ⟨e, he, hd⟩
 unfold steady at h
 have hm : e ∈ ops.drop j := List.mem_iff_getElem?.2 ⟨l - j, by rw [List.getElem?_drop, show j + (l - j) = l by omega]; exact he⟩
 have := List.all_eq_true.1 h e hm
 rw [hd] at this
 simp at this
 exact this ht
end
end
end Go.Dn
namespace Go.Dn
set_option linter.unusedVariables false
set_option linter.unusedSimpArgs false
section
variable {P : Program} {pol : Pol}
section
variable {f : Task → Option Out} {k r : Nat} {ops : List Oper} {S0 S1 : List Ob} {vs : Nat → List V} {fls : Nat → Fl} {Ss : Nat → List Ob} {ids : Nat → Nat} {rv : Nat → V}
variable {w0 : World} {G0 : Sg} {a0 : Act} {L : Nat → Prop} {a : Act} {w : World} {G : Sg} {vals : List V} {m : Nat}
theorem spares_congr {vals vals' : List V} {id off n : Nat} {o : Oper} (h : Same vals vals' o) : spares P vals id off n o = spares P vals' id off n o := by
 unfold Same at h
 unfold spares
 cases hop : o.op <;> rw [hop] at h <;> simp only [Op.operands] at h <;> try rfl
 case store t ad x => simp at h; simp only [h.1]
 case call c =>
  have ha : ∀ x ∈ c.args.toList, ev vals x = ev vals' x := fun x hx => h x (by simp [Call.operands]; right; simpa using hx)
  simp only
  split
  ·rename_i g hcal
   rw [mapM_congr ha, h g (by simp [Call.operands, hcal])]
  ·rfl
  ·rfl
theorem RI.looks_val (h : Rg P pol f k r ops S0 S1 vs fls Ss ids rv) (hR : RI P pol k r ops S0 S1 vs fls Ss ids w0 G0 a0 L a w G vals m) {i : Nat} {o : Oper} (hr : Ready ops L i o) : ∀ t ∈ looks ops o, vals.getD t .u = (vs i).getD t .u := by
 intro t ht
 obtain ⟨h1, h2⟩ := looks_pre h hR.closed hr ht
 exact hR.cur t i (Nat.le_of_lt (List.getElem?_eq_some_iff.1 hr.at_).1) h1 h2
theorem early_of (hc : Closed ops L) {i : Nat} {o : Oper} (hr : Ready ops L i o) {i' : Nat} (hn : ¬L i') (hne : i' ≠ i) : early (befs ops []) true i' i = true := by
 unfold early
 have hb : ((befs ops []).getD i 0).testBit i' = false := by
  cases hb : ((befs ops []).getD i 0).testBit i' with
  | false => rfl
  | true => exact absurd (bef_closed hc i o hr.at_ hr.deps i' hb) hn
 rw [hb]
 simp
 exact fun e => hne e.symm
theorem advance (h : Rg P pol f k r ops S0 S1 vs fls Ss ids rv) (hR : RI P pol k r ops S0 S1 vs fls Ss ids w0 G0 a0 L a w G vals m) (hlen : (vs 0).length ≤ a0.tmps.size) {i : Nat} {o : Oper} (hr : Ready ops L i o) {x : Value} {w' : World} {G' : Sg} {m' : Nat}
  (hrv : RV G' (rv i) x) (hinv : Inv w' G' (Ss m')) (hext : Ext w0 G0 S0 w' G' (Ss m')) (hle : Le G G') (hm' : m' ≤ ops.length) (hp1 : ∀ j, j < m' → Ef P (fls 0) ops j → Plus L i j) (hp2 : ∀ j, m' ≤ j → Ef P (fls 0) ops j → ¬Plus L i j)
  (htok : Toks w' G' (a.put o.dst x) (fls m')) (hph : ∀ j o', ops[j]? = some o' → isAlloc o' = true → ¬Plus L i j → (∀ b, G'.own b ≠ some (.obj (ids j))) ∧ oget (Ss m') (ids j) = oget S1 (ids j))
  (hmove : ∀ y, o.guard = none → o.op = .move y → x = a.eval y)
  (hload : ∀ ty q id off, o.guard = none → o.op = .load ty (.tmp q) → tSize P ty = some 1 → tAgg P ty = some false → (vs i).getD q .u = .p id off → ∃ b, G.own b = some (.obj id) ∧ w.cell? ⟨b, off, none⟩ = some x)
  (hsp : ∀ id off, (effects P o = true → spares P vals id off 1 o = true) → ∀ b, G.own b = some (.obj id) → w'.cell? ⟨b, off, none⟩ = w.cell? ⟨b, off, none⟩) :
  RI P pol k r ops S0 S1 vs fls Ss ids w0 G0 a0 (Plus L i) (a.put o.dst x) w' G' (putV o.dst (rv i) vals) m' := by
 have hi := (List.getElem?_eq_some_iff.1 hr.at_).1
 have hput : ∀ t, (a.put o.dst x).tmps.getD t undef = if o.dst = some t then (if t < a.tmps.size then x else undef) else a.tmps.getD t undef := by
  intro t
  cases hd : o.dst with
  | none => simp [put_none]
  | some d =>
   rw [put_getD]
   by_cases e : t = d
   ·subst e; simp
   ·simp [e, Ne.symm e]
 have hc3 : ∀ i' t q id off, Hold P pol k r ops S0.length (vs ops.length) i' t q id off → ¬Plus L i i' → ∀ b, G0.own b = some (.obj id) → w'.cell? ⟨b, off, none⟩ = w0.cell? ⟨b, off, none⟩ := by
  intro i' t q id off hh hn b hb
  have hn1 : ¬L i' := fun e => hn (.inl e)
  have hne : i' ≠ i := fun e => hn (.inr e)
  rw [← hR.c3 i' t q id off hh hn1 b hb]
  refine hsp id off (fun he => ?_) b (hR.ext.obj _ _ hb)
  obtain ⟨s1, s2⟩ := hh.early i o hr.at_ (early_of hR.closed hr hn1 hne) he
  rw [← s1]
  refine spares_congr (same_of_looks (ops := ops) fun t ht => ?_)
  rw [hR.looks_val h hr t ht]
  exact (h.vs_same ops.length (Nat.le_of_lt hi) (Nat.le_refl _) fun j h1 _ => steady_spec s2 ht j h1).symm
 refine ⟨hinv, hext, fun t => ?_, by rw [putV_length]; exact hR.vl, by cases o.dst <;> simp [Act.put, hR.sz], by cases o.dst <;> simp [Act.put, hR.df], fun t b hb h1 h2 => ?_, hm', hp1, hp2, htok, hph, fun j o' ho' hL e he hbi => ?_, fun t ht => ?_, fun t q hts hall hex hq => ?_, hc3, fun i' t q id off hh hn hts hex => ?_⟩
 ·-- values
  rw [getD_putV, hput]
  by_cases hd : o.dst = some t
  ·by_cases hl : t < vals.length
   ·rw [if_pos ⟨hd, hl⟩, if_pos hd, if_pos (by rw [hR.sz]; have := hR.vl; omega)]
    exact hrv
   ·rw [if_neg (fun e => hl e.2)]
    rw [List.getD_eq_getElem?_getD, List.getElem?_eq_none (by omega)]
    simp only [Option.getD_none, RV]
  ·rw [if_neg (fun e => hd e.1), if_neg hd]
   exact RV.mono hle _ _ (hR.fr t)
 ·-- as the text's order says
  by_cases hd : o.dst = some t
  ·have hib : i < b := by
    rcases Nat.lt_or_ge i b with hlt | hge
    ·exact hlt
    ·exact absurd (.inr rfl) (h2 i hge ⟨o, hr.at_, hd⟩)
   have e1 : (vs (i + 1)).getD t .u = (putV o.dst (rv i) (vs i)).getD t .u := by rw [h.tr.vs i o hr.at_]
   have hno : ∀ j, i + 1 ≤ j → j < b → ¬Wr ops j t := by
    intro j hj hjb hw
    have hL : L j := by
     rcases h1 j hjb hw with hL | e
     ·exact hL
     ·omega
    exact (dst_pre h hR.closed hr hd).2 j (by omega) hw hL
   rw [h.vs_same b (by omega) hb hno, e1, getD_putV, getD_putV, h.vlen i (Nat.le_of_lt hi), hR.vl]
   by_cases hl : t < (vs 0).length
   ·rw [if_pos ⟨hd, hl⟩, if_pos ⟨hd, hl⟩]
   ·rw [if_neg (fun e => hl e.2), if_neg (fun e => hl e.2)]
    rw [List.getD_eq_getElem?_getD, List.getD_eq_getElem?_getD, List.getElem?_eq_none (by rw [hR.vl]; omega), List.getElem?_eq_none (by rw [h.vlen i (Nat.le_of_lt hi)]; omega)]
  ·rw [getD_putV, if_neg (fun e => hd e.1)]
   have hnw : ¬Wr ops i t := fun ⟨o', ho', hd'⟩ => by rw [hr.at_] at ho'; injection ho' with ho'; subst ho'; exact hd hd'
   refine hR.cur t b hb (fun j hj hw => ?_) (fun j hj hw hL => h2 j hj hw (.inl hL))
   rcases h1 j hj hw with hL | e
   ·exact hL
   ·subst e; exact absurd hw hnw
 ·-- what is waited for
  rcases hL with hL | e'
  ·exact .inl (hR.closed j o' ho' hL e he hbi)
  ·subst e'; rw [hr.at_] at ho'; injection ho' with ho'; subst ho'
   exact .inl (hr.deps e he hbi)
 ·have hd : o.dst ≠ some t := fun hd => ht i ⟨o, hr.at_, hd⟩ (.inr rfl)
  rw [hput, if_neg hd]
  exact hR.c1 t fun j hw hL => ht j hw (.inl hL)
 ·-- copies of slots
  have hq' : ∀ j, Wr ops j q → ¬L j := fun j hw hL => hq j hw (.inl hL)
  rw [hput]
  by_cases hd : o.dst = some t
  ·obtain ⟨g1, g2⟩ := hall i o hr.at_ hd
   rw [if_pos hd, if_pos (by rw [hR.sz]; exact hts), hmove _ g1 g2]
   exact hR.c1 q hq'
  ·rw [if_neg hd]
   obtain ⟨j, hw, hL⟩ := hex
   refine hR.c2 t q hts hall ⟨j, hw, ?_⟩ hq'
   rcases hL with hL | e
   ·exact hL
   ·subst e; obtain ⟨o', ho', hd'⟩ := hw; rw [hr.at_] at ho'; injection ho' with ho'; subst ho'; exact absurd hd' hd
 ·-- copies of cells
  have hn1 : ¬L i' := fun e => hn (.inl e)
  rw [hput]
  by_cases hd : o.dst = some t
  ·obtain ⟨s1, g1, ty, g2, g3, g4⟩ := hh.copy i o hr.at_ hd
   have hql : q ∈ looks ops o := mem_looks (by rw [g2]; simp [Op.operands])
   have hqv : (vs i).getD q .u = .p id off := by
    rw [← hh.addr]
    exact (h.vs_same ops.length (Nat.le_of_lt hi) (Nat.le_refl _) fun j h1 _ => steady_spec s1 hql j h1).symm
   obtain ⟨b, hb, hcell⟩ := hload ty q id off g1 g2 g3 g4 hqv
   have hb0 := hR.ext.newo b id hb hh.old
   rw [if_pos hd, if_pos (by rw [hR.sz]; exact hts)]
   exact ⟨b, hb0, by rw [← hR.c3 i' t q id off hh hn1 b hb0]; exact hcell⟩
  ·rw [if_neg hd]
   obtain ⟨j, hw, hL⟩ := hex
   refine hR.c4 i' t q id off hh hn1 hts ⟨j, hw, ?_⟩
   rcases hL with hL | e
   ·exact hL
   ·subst e; obtain ⟨o', ho', hd'⟩ := hw; rw [hr.at_] at ho'; injection ho' with ho'; subst ho'; exact absurd hd' hd
end
end
end Go.Dn
namespace Go.Dn
set_option linter.unusedVariables false
set_option linter.unusedSimpArgs false
section
variable {P : Program} {pol : Pol}
theorem flAfter_mem {k r i : Nat} {ops : List Oper} {fl : Fl} {o : Oper} {q z : Nat} (h : (q, z) ∈ flAfter P pol k r i ops fl o) : (q, z) ∈ fl ∨ o.dst = some q ∧ (makesTok o = true ∨ ∃ t z', o.op = .assign (.tmp t) ∧ tok fl t = some z') := by
 have h1 : ∀ {x : Nat × Nat}, x ∈ (match o.dst with | some d => drop1 fl d | none => fl) → x ∈ fl := by
  intro x hx
  cases hd : o.dst with
  | none => rw [hd] at hx; exact hx
  | some d => rw [hd] at hx; exact drop1_sub _ hx
 unfold flAfter at h
 simp only at h
 split at h
 ·exact .inl (h1 h)
 ·split at h
  ·rename_i t d hop hd
   split at h
   ·rename_i z' hz
    rcases List.mem_cons.1 h with e | h
    ·injection e with e1 e2; subst e1
     exact .inr ⟨hd, .inr ⟨t, z', hop, hz⟩⟩
    ·exact .inl (h1 (drop1_sub _ h))
   ·exact .inl (h1 h)
  ·rename_i d hop hd
   split at h
   ·rcases List.mem_cons.1 h with e | h
    ·injection e with e1 e2; subst e1
     exact .inr ⟨hd, .inl (by simp [makesTok, hop])⟩
    ·exact .inl (h1 h)
   ·exact .inl (h1 h)
  ·exact .inl (h1 (drop1_sub _ h))
  ·rename_i t n c d hop hd
   split at h
   ·split at h
    ·rcases List.mem_cons.1 h with e | h
     ·injection e with e1 e2; subst e1
      exact .inr ⟨hd, .inl (by simp [makesTok, hop])⟩
     ·exact .inl (h1 h)
    ·exact .inl (h1 h)
   ·exact .inl (h1 h)
  ·rename_i c d hop hd
   split at h
   ·rename_i hcal
    have hmk : makesTok o = true := by simp [makesTok, hop, hcal]
    split at h
    ·split at h
     ·rcases List.mem_cons.1 h with e | h
      ·injection e with e1 e2; subst e1; exact .inr ⟨hd, .inl hmk⟩
      ·exact .inl (h1 h)
     ·split at h
      ·rcases List.mem_cons.1 h with e | h
       ·injection e with e1 e2; subst e1; exact .inr ⟨hd, .inl hmk⟩
       ·exact .inl (h1 (drop1_sub _ h))
      ·exact .inl (h1 h)
     ·rcases List.mem_cons.1 h with e | h
      ·injection e with e1 e2; subst e1; exact .inr ⟨hd, .inl hmk⟩
      ·exact .inl (h1 h)
     ·exact .inl (h1 h)
    ·exact .inl (h1 h)
   ·exact .inl (h1 h)
  ·exact .inl (h1 h)
theorem hasTok_of {fl : Fl} {ops : List Oper} {o : Oper} {q : Nat} (ho : o ∈ ops) (hd : o.dst = some q) (hm : makesTok o = true) : hasTok fl ops q = true := by
 unfold hasTok
 rw [Bool.or_eq_true]
 exact .inr (List.any_eq_true.2 ⟨o, ho, by simp [hd, hm]⟩)
theorem hasTok_fl {fl : Fl} {ops : List Oper} {q z : Nat} (h : (q, z) ∈ fl) : hasTok fl ops q = true := by
 unfold hasTok
 rw [Bool.or_eq_true]
 left
 unfold tok
 cases hf : fl.find? (·.1 == q) with
 | some x => rfl
 | none => have := List.find?_eq_none.1 hf _ h; simp at this
theorem mayTok_cls {fl : Fl} {ops : List Oper} {o : Oper} {q : Nat} (ha : isAlloc o = false) (hd : o.dst = some q) (hm : mayTok fl ops q = true) : cls P fl ops o = 3 := by
 unfold cls
 rw [ha]
 simp only [Bool.false_eq_true, if_false]
 split
 ·rfl
 ·simp [hd, hm]
section
variable {f : Task → Option Out} {k r : Nat} {ops : List Oper} {S0 S1 : List Ob} {vs : Nat → List V} {fls : Nat → Fl} {Ss : Nat → List Ob} {ids : Nat → Nat} {rv : Nat → V}
theorem Rg.may (h : Rg P pol f k r ops S0 S1 vs fls Ss ids rv) : ∀ j, j ≤ ops.length → ∀ q z, (q, z) ∈ fls j → mayTok (fls 0) ops q = true
 | 0, _, q, z, hm => by unfold mayTok; rw [hasTok_fl hm]; rfl
 | j + 1, hj, q, z, hm => by
  have ho := List.getElem?_eq_getElem (show j < ops.length by omega)
  have hmem := List.mem_of_getElem? ho
  rw [h.tr.fls j _ ho] at hm
  rcases flAfter_mem hm with hm | ⟨hd, hm | ⟨t, z', hop, hz⟩⟩
  ·exact h.may j (by omega) q z hm
  ·unfold mayTok; rw [hasTok_of hmem hd hm]; rfl
  ·have ht := h.may j (by omega) t z' (tok_mem hz)
   have hno := (draw_spec h.draw ho).2.1 t hop
   unfold mayTok at ht
   rw [Bool.or_eq_true] at ht
   have hth : hasTok (fls 0) ops t = true := by
    rcases ht with ht | ht
    ·exact ht
    ·obtain ⟨o', ho', hx⟩ := List.any_eq_true.1 ht
     rw [Bool.and_eq_true] at hx
     obtain ⟨e1, e2⟩ := hx
     have e1' : o'.dst = some t := by simpa using e1
     cases hop' : o'.op with
     | assign y => exact absurd hop' (hno o' ho' e1' y)
     | _ => rw [hop'] at e2; simp at e2
   unfold mayTok
   rw [Bool.or_eq_true]
   exact .inr (List.any_eq_true.2 ⟨_, hmem, by rw [hop, hd]; simp [hth]⟩)
theorem Rg.fls_sub (h : Rg P pol f k r ops S0 S1 vs fls Ss ids rv) {j : Nat} {o : Oper} (ho : ops[j]? = some o) (he : cls P (fls 0) ops o ≠ 3) : ∀ x ∈ fls (j + 1), x ∈ fls j := by
 intro x hx
 have hj := (List.getElem?_eq_some_iff.1 ho).1
 have hmay := h.may (j + 1) hj x.1 x.2 hx
 rw [h.tr.fls j o ho] at hx
 rcases flAfter_mem (q := x.1) (z := x.2) hx with hx | ⟨hd, hm⟩
 ·exact hx
 ·cases ha : isAlloc o with
  | false => exact absurd (mayTok_cls ha hd hmay) he
  | true =>
   obtain ⟨t, ht⟩ : ∃ t, o.op = .alloc t ∨ o.op = .makeMap t none ∨ ∃ x, o.op = .box t x := by
    unfold isAlloc at ha; split at ha
    ·rename_i t h1 _; exact ⟨t, .inl h1⟩
    ·rename_i t h1 _; exact ⟨t, .inr (.inl h1)⟩
    ·rename_i t q h1 _; exact ⟨t, .inr (.inr ⟨_, h1⟩)⟩
    ·cases ha
   rcases ht with ht | ht | ⟨_, ht⟩ <;> rcases hm with hm | ⟨t', z', h1, _⟩
   all_goals first
    | simp [makesTok, ht] at hm
    | (rw [ht] at h1; cases h1)
theorem Rg.dst_free (h : Rg P pol f k r ops S0 S1 vs fls Ss ids rv) {i j : Nat} {o : Oper} (ho : ops[i]? = some o) (he : cls P (fls 0) ops o ≠ 3) (hj : j ≤ ops.length) {d : Nat} (hd : o.dst = some d) : ∀ z, (d, z) ∉ fls j := by
 intro z hm
 have hmay := h.may j hj d z hm
 cases ha : isAlloc o with
 | false => exact absurd (mayTok_cls ha hd hmay) he
 | true =>
  have := (draw_spec h.draw ho).2.2.2.1 d ha hd
  rw [hmay] at this; cases this
theorem Rg.Ss_same (h : Rg P pol f k r ops S0 S1 vs fls Ss ids rv) {j : Nat} {o : Oper} (ho : ops[j]? = some o) (he : cls P (fls 0) ops o ≠ 3) : Ss (j + 1) = Ss j := by
 have hst := h.tr.step j o ho
 generalize hSS : Ss (j + 1) = T at hst
 generalize hr : rv j = v at hst
 cases hst with
 | alloc ha => rfl
 | pure ha hg he hp => rfl
 | eff ha hg he' hp => exact absurd (by unfold cls; simp [ha, he']) he
theorem Rg.run_same (h : Rg P pol f k r ops S0 S1 vs fls Ss ids rv) {a : Nat} : ∀ b, a ≤ b → b ≤ ops.length → (∀ j, a ≤ j → j < b → ¬Ef P (fls 0) ops j) → Ss b = Ss a ∧ ∀ x ∈ fls b, x ∈ fls a
  | 0, hab, _, _ => by have : a = 0 := by omega
                       subst this; exact ⟨rfl, fun _ h => h⟩
  | b + 1, hab, hb, hn => by
    rcases Nat.lt_or_ge b a with hlt | hge
    · have : a = b + 1 := by omega
      subst this; exact ⟨rfl, fun _ h => h⟩
    · have ho := List.getElem?_eq_getElem (show b < ops.length by omega)
      have he : cls P (fls 0) ops ops[b] ≠ 3 := fun e => hn b hge (by omega) ⟨_, ho, e⟩
      obtain ⟨h1, h2⟩ := h.run_same b hge (by omega) fun j q1 q2 => hn j q1 (by omega)
      exact ⟨(h.Ss_same ho he).trans h1, fun x hx => h2 x (h.fls_sub ho he x hx)⟩
end
end
end Go.Dn
namespace Go.Dn
set_option linter.unusedVariables false
set_option linter.unusedSimpArgs false
section
variable {P : Program} {pol : Pol} {G : Sg} {a : Act} {opsA : Array Oper}
theorem yielded_bool {j g : Nat} {c : Bool} (hd : (opsA.toList[j]?).bind (·.dst) = some g) (hv : a.tmps.getD g undef = .bool c) : yielded opsA a.tmps j = some c := by
 unfold yielded
 rw [Array.getElem?_toList] at hd
 rw [hd]
 simp only [Option.bind_some]
 rw [Array.getD_eq_getD_getElem?] at hv
 cases ht : a.tmps[g]? with
 | none => rw [ht] at hv; simp [undef] at hv
 | some x => rw [ht] at hv; simp at hv; subst hv; rfl
theorem yielded_none {j g : Nat} (hd : (opsA.toList[j]?).bind (·.dst) = some g) (hv : a.tmps.getD g undef = .tuple #[]) : yielded opsA a.tmps j = none := by
 unfold yielded
 rw [Array.getElem?_toList] at hd
 rw [hd]
 simp only [Option.bind_some]
 rw [Array.getD_eq_getD_getElem?] at hv
 cases ht : a.tmps[g]? with
 | none => rfl
 | some x => rw [ht] at hv; simp at hv; subst hv; rfl
theorem want_cases {V : List V} {o : Oper} (hfr : ∀ t ∈ looks opsA.toList o, RV G (V.getD t .u) (a.tmps.getD t undef)) {j g : Nat} {want : Bool} (hg : o.guard = some (j, want)) (hd : (opsA.toList[j]?).bind (·.dst) = some g) :
  (∀ c, V.getD g .u = .d (.b c) → Region.wanted o (yielded opsA a.tmps) = (c == want)) ∧ (V.getD g .u = .t [] → Region.wanted o (yielded opsA a.tmps) = false) := by
 have hm : g ∈ looks opsA.toList o := by unfold looks; rw [hg]; simp only; rw [hd]; simp
 have hr := hfr g hm
 constructor
 ·intro c hc
  rw [hc] at hr
  simp only [RV, RD] at hr
  unfold Region.wanted
  rw [hg]
  simp only [yielded_bool hd hr]
  cases c <;> cases want <;> rfl
 ·intro hc
  rw [hc] at hr
  simp only [RV, RVs] at hr
  obtain ⟨vs, e1, e2⟩ := hr
  have : vs = #[] := by apply Array.ext'; simpa using e2
  subst this
  unfold Region.wanted
  rw [hg]
  simp only [yielded_none hd e1]
  rfl
theorem pvalG_cases {V : List V} {S : List Ob} {o : Oper} {v : Dn.V} (hfr : ∀ t ∈ looks opsA.toList o, RV G (V.getD t .u) (a.tmps.getD t undef)) (h : pvalG P opsA.toList V S o = some v) :
  (Region.wanted o (yielded opsA a.tmps) = true ∧ pval P V S o = some v) ∨ (Region.wanted o (yielded opsA a.tmps) = false ∧ v = .t [] ∧ o.guard.isSome = true) := by
 unfold pvalG at h
 split at h
 ·rename_i hg; exact .inl ⟨by simp [Region.wanted, hg], h⟩
 ·rename_i j want hg
  split at h
  ·rename_i g hd
   obtain ⟨h1, h2⟩ := want_cases hfr hg hd
   unfold gd at h
   split at h
   ·rename_i c hc
    have hw := h1 c hc
    split at h
    ·rename_i e; subst e; exact .inl ⟨by rw [hw]; simp, h⟩
    ·rename_i e; injection h with h; exact .inr ⟨by rw [hw]; simpa using e, h.symm, by rw [hg]; rfl⟩
   ·rename_i hc; injection h with h; exact .inr ⟨h2 hc, h.symm, by rw [hg]; rfl⟩
   ·simp at h
  ·simp at h
theorem eval1G_cases {f : Task → Option Out} {k r i : Nat} {fl : Fl} {V : List V} {S S' : List Ob} {o : Oper} {v : Dn.V} (hfr : ∀ t ∈ looks opsA.toList o, RV G (V.getD t .u) (a.tmps.getD t undef)) (h : interp f (eval1G P pol k r i opsA.toList V fl S o) = some (v, S')) :
  (Region.wanted o (yielded opsA a.tmps) = true ∧ interp f (eval1 P pol k r i opsA.toList V fl S o) = some (v, S')) ∨ (Region.wanted o (yielded opsA a.tmps) = false ∧ v = .t [] ∧ S' = S ∧ o.guard.isSome = true) := by
 unfold eval1G at h
 split at h
 ·rename_i hg; exact .inl ⟨by simp [Region.wanted, hg], h⟩
 ·rename_i j want hg
  split at h
  ·rename_i g hd
   obtain ⟨h1, h2⟩ := want_cases hfr hg hd
   unfold gdE at h
   split at h
   ·rename_i c hc
    have hw := h1 c hc
    split at h
    ·rename_i e; subst e; exact .inl ⟨by rw [hw]; simp, h⟩
    ·rename_i e
     simp only [interp, Option.some.injEq, Prod.mk.injEq] at h
     exact .inr ⟨by rw [hw]; simpa using e, h.1.symm, h.2.symm, by rw [hg]; rfl⟩
   ·rename_i hc
    simp only [interp, Option.some.injEq, Prod.mk.injEq] at h
    exact .inr ⟨h2 hc, h.1.symm, h.2.symm, by rw [hg]; rfl⟩
   ·simp [interp] at h
  ·simp [interp] at h
section
variable {f : Task → Option Out} {k r : Nat} {ops : List Oper} {S0 S1 : List Ob} {vs : Nat → List V} {fls : Nat → Fl} {Ss : Nat → List Ob} {ids : Nat → Nat} {rv : Nat → V} {L : Nat → Prop}
def LookOk (P : Program) (n1 : Nat) (vals : List V) (a b : Oper) : Prop :=
 (∃ s d x dd, a.op = .convert s d x ∧ ev vals x = some (.d dd)) ∨ ∃ t x, a.op = .load t x ∧ ((∃ xs i off, ev vals x = some (.e xs i off)) ∨ ∃ id off n, ev vals x = some (.p id off) ∧ tSize P t = some n ∧ id < n1 ∧ (tAgg P t = some true ∨ n = 1) ∧ spares P vals id off n b = true)
theorem pairOk_spec {n1 : Nat} {vals : List V} {a b : Oper} (h : pairOk P n1 vals a b = true) : LookOk P n1 vals a b := by
 unfold pairOk at h
 split at h
 ·rename_i t x hop
  split at h
  ·rename_i xs i off he; exact .inr ⟨t, x, hop, .inl ⟨_, _, _, he⟩⟩
  ·rename_i id off n he hn
   simp only [Bool.and_eq_true, Bool.or_eq_true, decide_eq_true_eq, beq_iff_eq] at h
   exact .inr ⟨t, x, hop, .inr ⟨id, off, n, he, hn, h.1.1, h.1.2, h.2⟩⟩
  ·simp at h
 ·rename_i s d x hop
  split at h
  ·rename_i dd he; exact .inl ⟨s, d, x, dd, hop, he⟩
  ·simp at h
 ·simp at h
theorem look_step (h : Rg P pol f k r ops S0 S1 vs fls Ss ids rv) {i j : Nat} {o e : Oper} (ho : ops[i]? = some o) (he : ops[j]? = some e) (hp : LookOk P S1.length (vs ops.length) o e) (hs1 : steady ops o i = true) (hs2 : steady ops e j = true) :
    pval P (vs i) (Ss (j + 1)) o = pval P (vs i) (Ss j) o := by
  have hi := (List.getElem?_eq_some_iff.1 ho).1
  have hj := (List.getElem?_eq_some_iff.1 he).1
  have hsi : Same (vs ops.length) (vs i) o := same_of_looks (ops := ops) fun t ht => h.vs_same ops.length (Nat.le_of_lt hi) (Nat.le_refl _) fun l h1 _ => steady_spec hs1 ht l h1
  have hsj : Same (vs ops.length) (vs j) e := same_of_looks (ops := ops) fun t ht => h.vs_same ops.length (Nat.le_of_lt hj) (Nat.le_refl _) fun l h1 _ => steady_spec hs2 ht l h1
  rcases hp with ⟨s, d, x, dd, hop, hev⟩ | ⟨t, x, hop, hcase⟩
  · have hx : ev (vs ops.length) x = ev (vs i) x := hsi x (by rw [hop]; simp [Op.operands])
    rw [hx] at hev
    have hview : ∀ S S' : List Ob, view S 1 (.d dd) = view S' 1 (.d dd) := fun S S' => by cases dd <;> rfl
    unfold pval
    simp only [hop, hev]
    split
    · split
      · split
        · simp only [Option.bind_eq_bind, Option.bind_some]
          rw [hview (Ss (j + 1)) (Ss j)]
        · rfl
      · rfl
    · rfl
  have hx : ev (vs ops.length) x = ev (vs i) x := hsi x (by rw [hop]; simp [Op.operands])
  have hpv : ∀ S, pval P (vs i) S o = (do o_load (← tAgg P t) (← tSize P t) S (← ev (vs i) x)) := by intro S; unfold pval; simp only [hop]
  rw [hpv, hpv, ← hx]
  rcases hcase with ⟨xs, i', off, hev⟩ | ⟨id, off, n, hev, hn, hid, hag, hsp⟩
  · rw [hev]; rfl
  · rw [hev, hn]
    cases hta : tAgg P t with
    | none => rfl
    | some ag =>
      simp only [Option.bind_eq_bind, Option.bind_some]
      have hag' : ag = true ∨ n = 1 := by rcases hag with e | e; · rw [hta] at e; injection e with e; exact .inl e
                                          · exact .inr e
      refine load_peek ?_ hag'
      rw [spares_congr hsj] at hsp
      have hst := h.tr.step j e he
      have hlen := h.len j (Nat.le_of_lt hj)
      generalize hSS : Ss (j + 1) = T at hst
      generalize hr : rv j = v at hst
      cases hst with
      | alloc ha => rfl
      | pure ha hg hne hp => rfl
      | eff ha hg hne hp =>
        unfold eval1G at hp
        split at hp
        · exact spares_peek hp hsp (by omega)
        · split at hp
          · unfold gdE at hp
            split at hp
            · split at hp
              · exact spares_peek hp hsp (by omega)
              · simp only [interp, Option.some.injEq, Prod.mk.injEq] at hp; rw [hp.2]
            · simp only [interp, Option.some.injEq, Prod.mk.injEq] at hp; rw [hp.2]
            · simp [interp] at hp
          · simp [interp] at hp
theorem look_steps (h : Rg P pol f k r ops S0 S1 vs fls Ss ids rv) {i a : Nat} {o : Oper} (ho : ops[i]? = some o) : ∀ b, a ≤ b → b ≤ ops.length → (∀ j e, a ≤ j → j < b → ops[j]? = some e → cls P (fls 0) ops e = 3 → LookOk P S1.length (vs ops.length) o e ∧ steady ops o i = true ∧ steady ops e j = true) → pval P (vs i) (Ss b) o = pval P (vs i) (Ss a) o
  | 0, hab, _, _ => by have : a = 0 := by omega
                       subst this; rfl
  | b + 1, hab, hb, hn => by
    rcases Nat.lt_or_ge b a with hlt | hge
    · have : a = b + 1 := by omega
      subst this; rfl
    · have he := List.getElem?_eq_getElem (show b < ops.length by omega)
      refine Eq.trans ?_ (look_steps h ho b hge (by omega) fun j e h1 h2 h3 h4 => hn j e h1 (by omega) h3 h4)
      by_cases h3 : cls P (fls 0) ops ops[b] = 3
      · obtain ⟨p1, p2, p3⟩ := hn b _ hge (by omega) he h3
        exact look_step h ho he p1 p2 p3
      · rw [h.Ss_same he h3]
theorem look_any (h : Rg P pol f k r ops S0 S1 vs fls Ss ids rv) (hc : Closed ops L) {i m : Nat} {o : Oper} (hr : Ready ops L i o) (hm : m ≤ ops.length) (p1 : ∀ j, j < m → Ef P (fls 0) ops j → L j) (p2 : ∀ j, m ≤ j → Ef P (fls 0) ops j → ¬L j) (hcls : cls P (fls 0) ops o = 1) :
  pval P (vs i) (Ss m) o = pval P (vs i) (Ss i) o := by
 have hi := (List.getElem?_eq_some_iff.1 hr.at_).1
 rcases Nat.le_total m i with hmi | him
 ·refine (look_steps h hr.at_ i hmi (Nat.le_of_lt hi) fun j e h1 h2 he h3 => ?_).symm
  have hL : ¬L j := p2 j h1 ⟨e, he, h3⟩
  have := (pair_lt h hc hr he h2 hL).2
  unfold orderOk at this
  rw [h3, hcls] at this
  simp only [List.getD_nil, Nat.zero_testBit, Bool.false_or, Bool.and_eq_true] at this
  exact ⟨pairOk_spec this.2.1.1, this.2.2, this.2.1.2⟩
 ·refine look_steps h hr.at_ m him hm fun j e h1 h2 he h3 => ?_
  have hL : L j := p1 j h2 ⟨e, he, h3⟩
  have hij : i < j := by
   rcases Nat.lt_or_ge i j with hlt | hge
   ·exact hlt
   ·have : j = i := by omega
    subst this; exact absurd hL hr.not
  have := (pair_gt h hc hr he hij hL).2
  unfold orderOk at this
  rw [h3, hcls] at this
  simp only [List.getD_nil, Nat.zero_testBit, Bool.false_or, Bool.and_eq_true] at this
  exact ⟨pairOk_spec this.2.1.1, this.2.1.2, this.2.2⟩
end
end
end Go.Dn
namespace Go.Dn
set_option linter.unusedVariables false
set_option linter.unusedSimpArgs false
theorem Ext.trans' {w : World} {G : Sg} {S : List Ob} {w1 : World} {G1 : Sg} {S1 S1' : List Ob} {w2 : World} {G2 : Sg} {S2 : List Ob} (h : Ext w G S w1 G1 S1) (k : Ext w1 G1 S1' w2 G2 S2) (hl : S.length ≤ S1'.length) (hs : ∀ id, id < S.length → oget S1' id = oget S1 id) : Ext w G S w2 G2 S2 := {
 os := k.os.trans h.os
 tape := k.tape.trans h.tape
 output := k.output.trans h.output
 size := Nat.le_trans h.size k.size
 F b o v x := k.F b o v (h.F b o v x)
 obj b id x := k.obj b id (h.obj b id x)
 keep b hb ho := by
  obtain ⟨h1, h2, h3⟩ := h.keep b hb ho
  obtain ⟨k1, k2, k3⟩ := k.keep b (Nat.lt_of_lt_of_le hb h.size) (by rw [h1]; exact ho)
  exact ⟨k1.trans h1, k2.trans h2, fun o => (k3 o).trans (h3 o)⟩
 newo b id x hid := h.newo b id (k.newo b id x (Nat.lt_of_lt_of_le hid hl)) hid
 ph id hid hn := ((k.ph id (Nat.lt_of_lt_of_le hid hl) fun b x => hn b (h.newo b id x hid)).trans (hs id hid)).trans (h.ph id hid hn)
 len := Nat.le_trans hl k.len }
section
variable {P : Program} {pol : Pol}
section
variable {f : Task → Option Out} {k r : Nat} {opsA : Array Oper} {S0 S1 : List Ob} {vs : Nat → List V} {fls : Nat → Fl} {Ss : Nat → List Ob} {ids : Nat → Nat} {rv : Nat → V}
variable {w0 : World} {G0 : Sg} {a0 : Act} {L : Nat → Prop} {a : Act} {w : World} {G : Sg} {vals : List V} {m : Nat}
theorem e_at (h : Rg P pol f k r opsA.toList S0 S1 vs fls Ss ids rv) (hR : RI P pol k r opsA.toList S0 S1 vs fls Ss ids w0 G0 a0 L a w G vals m) {i : Nat} {o : Oper} (hr : Ready opsA.toList L i o) (he : cls P (fls 0) opsA.toList o = 3) :
  Ss i = Ss m ∧ (∀ x ∈ fls i, x ∈ fls m) ∧ (∀ j, j < i + 1 → Ef P (fls 0) opsA.toList j → Plus L i j) ∧ (∀ j, i + 1 ≤ j → Ef P (fls 0) opsA.toList j → ¬Plus L i j) := by
 obtain ⟨q1, q2⟩ := ef_pre h hR.closed hr he
 have hi := (List.getElem?_eq_some_iff.1 hr.at_).1
 have hmi : m ≤ i := by
  rcases Nat.lt_or_ge i m with hlt | hge
  ·exact absurd (hR.pre1 i hlt ⟨o, hr.at_, he⟩) hr.not
  ·exact hge
 obtain ⟨p1, p2⟩ := h.run_same i hmi (Nat.le_of_lt hi) fun j h1 h2 hE => hR.pre2 j h1 hE (q1 j h2 hE)
 refine ⟨p1, p2, fun j hj hE => ?_, fun j hj hE hP => ?_⟩
 ·rcases Nat.lt_or_ge j i with hlt | hge
  ·exact .inl (q1 j hlt hE)
  ·exact .inr (by omega)
 ·rcases hP with hL | e
  ·exact q2 j (by omega) hE hL
  ·omega
theorem ne_at (hR : RI P pol k r opsA.toList S0 S1 vs fls Ss ids w0 G0 a0 L a w G vals m) {i : Nat} {o : Oper} (hr : Ready opsA.toList L i o) (he : cls P (fls 0) opsA.toList o ≠ 3) :
  (∀ j, j < m → Ef P (fls 0) opsA.toList j → Plus L i j) ∧ (∀ j, m ≤ j → Ef P (fls 0) opsA.toList j → ¬Plus L i j) := by
 refine ⟨fun j hj hE => .inl (hR.pre1 j hj hE), fun j hj hE hP => ?_⟩
 rcases hP with hL | e
 ·exact hR.pre2 j hj hE hL
 ·subst e
  obtain ⟨o', ho', h3⟩ := hE
  rw [hr.at_] at ho'; injection ho' with ho'; subst ho'; exact he h3
theorem toks_free {w w' : World} {G G' : Sg} {a : Act} {fl : Fl} {dst : Option Nat} {x : Value} (h : Toks w G a fl) (ht : ∀ q' sz v, TokR w G (.slot q') sz v → TokR w' G' (.slot q') sz v) (hd : ∀ d, dst = some d → ∀ z, (d, z) ∉ fl) : Toks w' G' (a.put dst x) fl := by
 have := h.put (dst := dst) (x := x) (q := none) (fun q' sz v _ h => ht q' sz v h) (by simp)
 refine this.sub fun y hy => ?_
 cases hds : dst with
 | none => exact hy
 | some d => exact (mem_drop1 (o := y.1) (z := y.2)).2 ⟨hy, fun e => hd d hds y.2 (by rw [← e]; exact hy)⟩
theorem ph_next (hR : RI P pol k r opsA.toList S0 S1 vs fls Ss ids w0 G0 a0 L a w G vals m) (h : Rg P pol f k r opsA.toList S0 S1 vs fls Ss ids rv) {i m' : Nat} {w' : World} {G' : Sg} (hE : Ext w G (Ss m) w' G' (Ss m')) :
  ∀ j o', opsA.toList[j]? = some o' → isAlloc o' = true → ¬Plus L i j → (∀ b, G'.own b ≠ some (.obj (ids j))) ∧ oget (Ss m') (ids j) = oget S1 (ids j) := by
 intro j o' ho' ha hn
 obtain ⟨p1, p2⟩ := hR.ph j o' ho' ha (fun e => hn (.inl e))
 have hj := (List.getElem?_eq_some_iff.1 ho').1
 have hlt : ids j < (Ss m).length := by
  have h1 := h.ids_eq j (Nat.le_of_lt hj)
  have h2 := h.len m hR.m_le
  have h3 := cnt_succ ho'
  rw [if_pos ha] at h3
  have h4 := cnt_mono (ops := opsA.toList) (show j + 1 ≤ opsA.toList.length by omega)
  have h5 := h.len1
  omega
 exact ⟨fun b hb => p1 b (hE.newo b _ hb hlt), by rw [hE.ph _ hlt p1]; exact p2⟩
theorem step_ok (hF : GoodF P f) (h : Rg P pol f k r opsA.toList S0 S1 vs fls Ss ids rv) (hR : RI P pol k r opsA.toList S0 S1 vs fls Ss ids w0 G0 a0 L a w G vals m) (hlen : (vs 0).length ≤ a0.tmps.size) {i : Nat} {o : Oper} (hr : Ready opsA.toList L i o)
  {Q : Exit → Act → World → Prop} {K : Act → World → Prop} (hK : ∀ a' w' G' vals' m', RI P pol k r opsA.toList S0 S1 vs fls Ss ids w0 G0 a0 (Plus L i) a' w' G' vals' m' → K a' w') : wpOp P opsA Q i K a w := by
 have hi := (List.getElem?_eq_some_iff.1 hr.at_).1
 have hat : opsA[i]? = some o := by rw [← Array.getElem?_toList]; exact hr.at_
 have hlooks := hR.looks_val h hr
 have hfr : ∀ t ∈ looks opsA.toList o, RV G ((vs i).getD t .u) (a.tmps.getD t undef) := fun t ht => by rw [← hlooks t ht]; exact hR.fr t
 have hsame : Same vals (vs i) o := same_of_looks hlooks
 unfold wpOp
 rw [hat]
 simp only
 have hst := h.tr.step i o hr.at_
 rw [Nat.zero_add] at hst
 have hfl1 := h.tr.fls i o hr.at_
 rw [Nat.zero_add] at hfl1
 -- what is not wanted
 have skip : rv i = .t [] → Ss (i + 1) = Ss i → o.guard.isSome = true → K (a.put o.dst undef) w := by
  intro hv hS hg
  have hgn : o.guard ≠ none := fun e => by rw [e] at hg; cases hg
  have hfl2 : flAfter P pol k r i opsA.toList (fls i) o = (match o.dst with | some d => drop1 (fls i) d | none => fls i) := by unfold flAfter; simp only [hg, if_true]; cases o.dst <;> rfl
  have hrv : RV G (rv i) undef := by rw [hv]; simp only [RV, RVs]; exact ⟨#[], rfl, rfl⟩
  by_cases he : cls P (fls 0) opsA.toList o = 3
  ·obtain ⟨e1, e2, e3, e4⟩ := e_at h hR hr he
   have hSm : Ss (i + 1) = Ss m := hS.trans e1
   refine hK _ _ _ _ _ (advance h hR hlen hr (x := undef) (m' := i + 1) hrv (by rw [hSm]; exact hR.inv) (by rw [hSm]; exact hR.ext) (Le.refl _) hi e3 e4 ?_ (ph_next hR h (by rw [hSm]; exact Ext.refl _ _ _)) (fun y e => absurd e hgn) (fun ty q id off e => absurd e hgn) (fun _ _ _ _ _ => rfl))
   rw [hfl1, hfl2]
   exact (hR.tok.sub e2).put (q := none) (fun _ _ _ _ h => h) (by simp)
  ·obtain ⟨e3, e4⟩ := ne_at hR hr he
   exact hK _ _ _ _ _ (advance h hR hlen hr (x := undef) (m' := m) hrv hR.inv hR.ext (Le.refl _) hR.m_le e3 e4 (toks_free hR.tok (fun _ _ _ h => h) (fun d hd => h.dst_free hr.at_ he hR.m_le hd)) (ph_next hR h (Ext.refl _ _ _)) (fun y e => absurd e hgn) (fun ty q id off e => absurd e hgn) (fun _ _ _ _ _ => rfl))
 generalize hSS : Ss (i + 1) = T at hst skip
 generalize hrr : rv i = v at hst skip
 cases hst with
 | alloc ha =>
  have hgn : o.guard = none := by
   unfold isAlloc at ha; split at ha
   ·assumption
   ·assumption
   ·assumption
   ·cases ha
  have hne : cls P (fls 0) opsA.toList o ≠ 3 := by unfold cls; rw [ha]; simp
  obtain ⟨e3, e4⟩ := ne_at hR hr hne
  have hw : Region.wanted o (yielded opsA a.tmps) = true := by simp [Region.wanted, hgn]
  rw [if_pos hw]
  left
  obtain ⟨p1, p2⟩ := hR.ph i o hr.at_ ha hr.not
  obtain ⟨ob, gn, g5⟩ := h.al i o hr.at_ ha
  have hids := h.ids_eq i (Nat.le_of_lt hi)
  rw [← hids] at g5
  obtain ⟨x, go, hex, q2, q3, hop1, hop2⟩ : ∃ x go, (execOp a.eval o).run P w = .ok (.value x) (pushW w go) ∧ RV (pushG w G (.obj (ids i))) (allocV o (ids i)) x ∧ Inv (pushW w go) (pushG w G (.obj (ids i))) (Ss m) ∧ (∀ y, o.op ≠ .move y) ∧ (∀ ty y, o.op ≠ .load ty y) := by
   cases gn with
   | var hop g2 g3 g4 =>
    obtain ⟨x, w', q1, q2, q3, go, q4⟩ := alloc_ok (P := P) (SP := fun _ _ => True) (n0 := 0) hR.inv g2 g3 g4 p1 (by rw [p2]; exact g5)
    subst q4
    exact ⟨x, go, by simp [execOp, hop, q1], by simpa only [allocV, hop] using q2, q3, by simp [hop], by simp [hop]⟩
   | map hop =>
    rename_i t
    obtain ⟨x, w', q1, q2, q3, go, q4⟩ := mapNew_ok (P := P) (t := t) hR.inv p1 (by rw [p2]; exact g5)
    subst q4
    exact ⟨x, go, by simp [execOp, hop, q1], by simpa only [allocV, hop] using q2, q3, by simp [hop], by simp [hop]⟩
   | box hop hgu hq hb g3 g4 =>
    rename_i t q sz cs fl
    have hqv : vals.getD q .u = (vs 0).getD q .u := hR.cur q 0 (Nat.zero_le _) (fun j hj => absurd hj (Nat.not_lt_zero _)) (fun j _ ⟨e, he, hd⟩ => absurd hd (hq e (List.mem_of_getElem? he)))
    obtain ⟨x, w', q1, q2, q3, go, q4⟩ := box_new (P := P) (t := t) hR.inv (by rw [← hqv]; exact hR.fr q) hb g3 g4 p1 (by rw [p2]; exact g5)
    subst q4
    exact ⟨x, go, by rw [Array.getD_eq_getD_getElem?] at q1; simp [execOp, hop, Act.eval, q1], by simpa only [allocV, hop] using q2, q3, by simp [hop], by simp [hop]⟩
  unfold Oper.wp
  rw [hex]
  have hS0 : S0.length ≤ (Ss m).length := by have := h.len m hR.m_le; have := h.len1; omega
  have hext : Ext w0 G0 S0 (pushW w go) (pushG w G (.obj (ids i))) (Ss m) := by
   refine hR.ext.trans' (S1' := lowS S0.length (Ss m)) (Ext.push_obj hR.inv (n0 := S0.length) (by omega) _ (lowS_length hS0) (fun id hid => (lowS_get hS0 hid).symm) hS0) (by rw [lowS_length hS0]; exact Nat.le_refl _) (fun id hid => lowS_get hS0 hid)
  refine hK _ _ _ _ _ (advance h hR hlen hr (x := x) (m' := m) (by rw [hrr]; exact q2) q3 hext (pushG_le hR.inv _) hR.m_le e3 e4 (toks_free hR.tok (fun q' sz v ht => ht.push hR.inv) (fun d hd => h.dst_free hr.at_ hne hR.m_le hd)) (fun j o' ho' ha' hn => ?_) (fun y _ e => absurd e (hop1 _)) (fun ty q id off _ e => absurd e (hop2 _ _)) (fun id off _ b hb => cell?_of_heap (pushW_old (hR.inv.tk _ _ hb)) off))
  obtain ⟨r1, r2⟩ := hR.ph j o' ho' ha' (fun e => hn (.inl e))
  refine ⟨fun b hb => ?_, r2⟩
  by_cases e : b = w.heap.size
  ·simp only [pushG, if_pos e] at hb
   injection hb with hb; injection hb with hb
   have hj := (List.getElem?_eq_some_iff.1 ho').1
   have hidj := h.ids_eq j (Nat.le_of_lt hj)
   have hij : i ≠ j := fun e => hn (.inr e.symm)
   rcases Nat.lt_or_ge i j with hlt | hge
   ·have h3 := cnt_succ hr.at_
    rw [if_pos ha] at h3
    have h4 := cnt_mono (ops := opsA.toList) (show i + 1 ≤ j by omega)
    omega
   ·have h3 := cnt_succ ho'
    rw [if_pos ha'] at h3
    have h4 := cnt_mono (ops := opsA.toList) (show j + 1 ≤ i by omega)
    omega
  ·simp only [pushG, if_neg e] at hb; exact r1 b hb
 | pure ha hg hne hp =>
  rcases pvalG_cases hfr hp with ⟨hw, hp⟩ | ⟨hw, hv, hgs⟩
  rotate_left
  ·rw [if_neg (by rw [hw]; simp)]; exact skip hv rfl hgs
  rw [if_pos hw]
  left
  have hpm : pval P vals (Ss m) o = some v := by
   rw [pval_congr hsame]
   by_cases hrd : reads P o = true
   ·by_cases he : cls P (fls 0) opsA.toList o = 3
    ·rw [← (e_at h hR hr he).1]; exact hp
    ·have h1 : cls P (fls 0) opsA.toList o = 1 := by
      cases hd : o.dst with
      | none => unfold cls; simp [ha, hne, hrd, hd]
      | some d =>
       have hx : mayTok (fls 0) opsA.toList d = false := by
        cases hm : mayTok (fls 0) opsA.toList d with
        | false => rfl
        | true => exact absurd (mayTok_cls ha hd hm) he
       unfold cls; simp [ha, hne, hrd, hd, hx]
     rw [look_any h hR.closed hr hR.m_le hR.pre1 hR.pre2 h1]; exact hp
   ·rw [pval_noread (by simpa using hrd)]; exact hp
  -- what is loaded
  have hload : ∀ {x : Value} {w' : World}, (execOp a.eval o).run P w = .ok (.value x) w' → ∀ ty q id off, o.guard = none → o.op = .load ty (.tmp q) → tSize P ty = some 1 → tAgg P ty = some false → (vs i).getD q .u = .p id off → ∃ b, G.own b = some (.obj id) ∧ w.cell? ⟨b, off, none⟩ = some x := by
   intro x w' hrun ty q id off _ hop hsz hag hq
   have hql : q ∈ looks opsA.toList o := mem_looks (by rw [hop]; simp [Op.operands])
   have hra := hfr q hql
   rw [hq] at hra
   simp only [RV] at hra
   obtain ⟨b, hb, hva⟩ := hra
   have hv : o_load false 1 (Ss m) (.p id off) = some v := by
    have hvq : vals.getD q .u = .p id off := by rw [hlooks q hql]; exact hq
    unfold pval at hpm
    simp only [hop, hag, hsz, ev, hvq] at hpm
    exact hpm
   obtain ⟨y, hy⟩ := cell_there hR.inv hv hb
   refine ⟨b, hb, ?_⟩
   simp only [execOp, hop, Act.eval] at hrun
   rw [hva] at hrun
   cases hl : (Instr.loadAt ty (.pointer (some ⟨b, off, none⟩))).run P w with
   | ok x' w'' =>
    rw [Sem.run_bind, hl] at hrun
    simp at hrun
    rw [hy, run_load_cell hag hy hl, hrun.1]
   | halt e w'' =>
    rw [Sem.run_bind, hl] at hrun
    simp at hrun
  have hmove : ∀ {x : Value} {w' : World}, (execOp a.eval o).run P w = .ok (.value x) w' → ∀ y, o.guard = none → o.op = .move y → x = a.eval y := by
   intro x w' hrun y _ hop
   simp [execOp, hop] at hrun
   exact hrun.1.symm
  by_cases he : cls P (fls 0) opsA.toList o = 3
  ·obtain ⟨e1, e2, e3, e4⟩ := e_at h hR hr he
   refine pure_does (pol := pol) (k := k) (r := r) (i := i) (ops := opsA.toList) hR.inv hR.fr (hR.tok.sub e2) hne hpm _ _ fun x w' hx => ?_
   obtain ⟨hrun, hcell, G', hE⟩ := hx
   have hSm : Ss (i + 1) = Ss m := hSS.trans e1
   exact hK _ _ _ _ _ (advance h hR hlen hr (x := x) (m' := i + 1) (by rw [hrr]; exact hE.rv) (by rw [hSm]; exact hE.inv) (by rw [hSm]; exact hR.ext.trans hE.ext) hE.ext.le hi e3 e4 (by rw [hfl1]; exact hE.tok) (ph_next hR h (by rw [hSm]; exact hE.ext)) (hmove hrun) (hload hrun) (fun id off _ b hb => hcell id off b hb))
  ·obtain ⟨e3, e4⟩ := ne_at hR hr he
   refine pure_plain hR.inv hR.fr hpm _ _ fun x w' hx => ?_
   obtain ⟨hrun, hcell, G', q1, q2, q3, q4⟩ := hx
   exact hK _ _ _ _ _ (advance h hR hlen hr (x := x) (m' := m) (by rw [hrr]; exact q1) q2 (hR.ext.trans q3) q3.le hR.m_le e3 e4 (toks_free hR.tok q4 (fun d hd => h.dst_free hr.at_ he hR.m_le hd)) (ph_next hR h q3) (hmove hrun) (hload hrun) (fun id off _ b hb => hcell id off b hb))
 | eff ha hg hef hp =>
  rcases eval1G_cases hfr hp with ⟨hw, hp⟩ | ⟨hw, hv, hS, hgs⟩
  rotate_left
  ·rw [if_neg (by rw [hw]; simp)]; exact skip hv hS hgs
  rw [if_pos hw]
  left
  have he : cls P (fls 0) opsA.toList o = 3 := by unfold cls; simp [ha, hef]
  obtain ⟨e1, e2, e3, e4⟩ := e_at h hR hr he
  -- the cell, the slot that a token is taken from
  have hall : ∀ j, L j → early (befs opsA.toList []) true i j = true := by
   intro j hL
   have hji : j ≠ i := fun e => hr.not (e ▸ hL)
   unfold early
   rcases Nat.lt_or_ge j i with hlt | hge
   ·simp [hlt, hji]
   ·have hb : ((befs opsA.toList []).getD j 0).testBit i = false := by
     cases hb : ((befs opsA.toList []).getD j 0).testBit i with
     | false => rfl
     | true =>
      cases hoj : opsA.toList[j]? with
      | none =>
       have : (befs opsA.toList []).getD j 0 = 0 := by
        rw [List.getD_eq_getElem?_getD, List.getElem?_eq_none]
        ·rfl
        ·rw [befs_length]; simp; exact Array.getElem?_eq_none_iff.1 (by rw [← Array.getElem?_toList]; exact hoj)
       rw [this] at hb; simp at hb
      | some oj => exact absurd (bef_closed hR.closed j oj hoj (hR.closed j oj hoj hL) i hb) hr.not
    rw [hb]
    simp [hji]
  have hso := List.all_eq_true.1 h.steal (o, i) (List.mem_zipIdx_iff_getElem?.2 hr.at_)
  simp only at hso
  have hst : Steal pol w G a vals opsA.toList o k r i := by
   intro c x hop hcal hx
   cases hargs : c.args.toList with
   | nil => rw [hargs] at hx; simp at hx
   | cons x' rest =>
    rw [hargs] at hx; simp at hx; subst hx
    refine ⟨fun happ q hq => ?_, fun happ q id off hq hva => ?_⟩
    ·unfold stealOk at hso
     simp only [hop, hcal, happ, hargs, hq] at hso
     split at hso
     rotate_left
     ·simp at hso
     rename_i t q' hq'
     injection hq' with hq'; subst hq'
     rw [Bool.or_eq_true, Bool.and_eq_true] at hso
     rcases hso with hso | ⟨s1, s2⟩
     ·simp only [beq_iff_eq] at hso; subst hso
      exact .inr rfl
     obtain ⟨e, he1, he2⟩ := List.any_eq_true.1 s1
     obtain ⟨je, hje⟩ := List.mem_iff_getElem?.1 he1
     have hlt : je < i := by have := (List.getElem?_eq_some_iff.1 hje).1; simp at this; omega
     rw [List.getElem?_take_of_lt hlt] at hje
     have hed : e.dst = some t := by simpa using he2
     have htl : t ∈ looks opsA.toList o := mem_looks (by rw [hop]; simp only [Op.operands, Call.operands, hcal]; simp; rw [← Array.mem_toList_iff, hargs]; simp)
     have hLe := (looks_pre h hR.closed hr htl).1 je hlt ⟨e, hje, hed⟩
     have hall2 : ∀ j e, opsA.toList[j]? = some e → (early (befs opsA.toList []) true i j = true → e.dst ≠ some q) ∧ (e.dst = some t → e.guard = none ∧ e.op = .move (.tmp q)) := by
      intro j e hj
      have := List.all_eq_true.1 s2 (e, j) (List.mem_zipIdx_iff_getElem?.2 hj)
      simp only [Bool.and_eq_true, Bool.or_eq_true, Bool.not_eq_true', bne_iff_ne, ne_eq] at this
      refine ⟨fun h1 h2 => ?_, fun h1 => ?_⟩
      ·rcases this.1 with h | h
       ·rw [h1] at h; cases h
       ·exact h h2
      ·rcases this.2 with h | ⟨h2, h3⟩
       ·exact absurd h1 h
       ·refine ⟨by simpa using h2, ?_⟩
        split at h3
        ·rename_i q' hop'; simp at h3; subst h3; exact hop'
        ·simp at h3
     have hq0 : ∀ j, Wr opsA.toList j q → ¬L j := fun j ⟨e, hj, hd⟩ hL => (hall2 j e hj).1 (hall j hL) hd
     rcases Nat.lt_or_ge t a0.tmps.size with hts | hts
     ·right
      simp only [Act.eval]
      rw [hR.c2 t q hts (fun j o hj hd => (hall2 j o hj).2 hd) ⟨je, ⟨e, hje, hed⟩, hLe⟩ hq0]
      exact (hR.c1 q hq0).symm
     ·left
      simp only [Act.eval]
      rw [Array.getD_eq_getD_getElem?, Array.getElem?_eq_none (by rw [hR.sz]; exact hts)]; rfl
    ·unfold stealOk at hso
     simp only [hop, hcal, happ, hargs, hq] at hso
     split at hso
     rotate_left
     ·simp at hso
     rename_i t q' hq'
     injection hq' with hq'; subst hq'
     split at hso
     rotate_left
     ·simp at hso
     rename_i id' off' hqv
     simp only [Bool.and_eq_true, decide_eq_true_eq] at hso
     obtain ⟨⟨s0, s1⟩, s2⟩ := hso
     obtain ⟨e, he1, he2⟩ := List.any_eq_true.1 s1
     obtain ⟨je, hje⟩ := List.mem_iff_getElem?.1 he1
     have hlt : je < i := by have := (List.getElem?_eq_some_iff.1 hje).1; simp at this; omega
     rw [List.getElem?_take_of_lt hlt] at hje
     have hed : e.dst = some t := by simpa using he2
     have htl : t ∈ looks opsA.toList o := mem_looks (by rw [hop]; simp only [Op.operands, Call.operands, hcal]; simp; rw [← Array.mem_toList_iff, hargs]; simp)
     have hLe := (looks_pre h hR.closed hr htl).1 je hlt ⟨e, hje, hed⟩
     have hall2 : ∀ j e, opsA.toList[j]? = some e → (early (befs opsA.toList []) true i j = true → effects P e = true → spares P (vs opsA.toList.length) id' off' 1 e = true ∧ steady opsA.toList e j = true) ∧ (e.dst = some t → steady opsA.toList e j = true ∧ e.guard = none ∧ ∃ ty, e.op = .load ty (.tmp q) ∧ tSize P ty = some 1 ∧ tAgg P ty = some false) := by
      intro j e hj
      have := List.all_eq_true.1 s2 (e, j) (List.mem_zipIdx_iff_getElem?.2 hj)
      simp only [Bool.and_eq_true, Bool.or_eq_true, Bool.not_eq_true', bne_iff_ne, ne_eq] at this
      refine ⟨fun h1 h2 => ?_, fun h1 => ?_⟩
      ·rcases this.1 with h | h
       ·rw [h1, h2] at h; simp at h
       ·exact h
      ·rcases this.2 with h | ⟨⟨h2, h3⟩, h4⟩
       ·exact absurd h1 h
       ·refine ⟨h2, by simpa using h3, ?_⟩
        split at h4
        ·rename_i ty q' hop'
         simp at h4
         obtain ⟨⟨h5, h6⟩, h7⟩ := h4
         subst h5; exact ⟨ty, hop', h6, h7⟩
        ·simp at h4
     obtain ⟨c1, c2, ty, c3, c4, c5⟩ := (hall2 je e hje).2 hed
     -- the address is the same
     have hql : q ∈ looks opsA.toList e := mem_looks (by rw [c3]; simp [Op.operands])
     have hqi : vals.getD q .u = (vs i).getD q .u := by
      refine hR.cur q i (Nat.le_of_lt hi) (fun j hj hw => ?_) (fun j hj hw => absurd hw (steady_spec c1 hql j (by omega)))
      have hjl : j < je := by
       rcases Nat.lt_or_ge j je with h' | h'
       ·exact h'
       ·exact absurd hw (steady_spec c1 hql j h')
      obtain ⟨ej, hej, hdj⟩ := hw
      have hrd := (draw_spec h.draw hje).2.2.2.2 j ej hjl hej
      have hb : ((befs opsA.toList []).getD je 0).testBit j = true := by
       unfold orderOk at hrd
       rw [Bool.or_eq_true] at hrd
       rcases hrd with h' | h'
       ·exact h'
       ·rw [Bool.and_eq_true] at h'
        exact absurd hql ((apart_spec h'.1).1 q hdj).1
      exact bef_closed hR.closed je e hje (hR.closed je e hje hLe) j hb
     have hqn : (vs opsA.toList.length).getD q .u = (vs i).getD q .u := h.vs_same _ (Nat.le_of_lt hi) (Nat.le_refl _) fun j h1 _ => steady_spec c1 hql j (by omega)
     have : (V.p id off) = .p id' off' := by rw [← hva, hqi, ← hqn, hqv]
     injection this with e5 e6; subst e5; subst e6
     have hH : Hold P pol k r opsA.toList S0.length (vs opsA.toList.length) i t q id off := ⟨s0, hqv, ⟨je, e, hlt, hje, hed⟩, fun j e hj => (hall2 j e hj).1, fun j e hj => (hall2 j e hj).2⟩
     rcases Nat.lt_or_ge t a0.tmps.size with hts | hts
     ·right
      obtain ⟨b, hb, hcell⟩ := hR.c4 i t q id off hH hr.not hts ⟨je, ⟨e, hje, hed⟩, hLe⟩
      exact ⟨b, hR.ext.obj _ _ hb, by rw [hR.c3 i t q id off hH hr.not b hb]; exact hcell⟩
     ·left
      simp only [Act.eval]
      rw [Array.getD_eq_getD_getElem?, Array.getElem?_eq_none (by rw [hR.sz]; exact hts)]; rfl
  have hq3 : ∀ c x q, o.op = .call c → c.callee = .builtin .append → pol.app k r i = 3 → c.args.toList.head? = some x → baseCell opsA.toList x = some q → vals.getD q .u = (vs i).getD q .u := by
   intro c x q hop hcal happ hx hq
   cases hargs : c.args.toList with
   | nil => rw [hargs] at hx; simp at hx
   | cons x' rest =>
    rw [hargs] at hx; simp at hx; subst hx
    unfold stealOk at hso
    simp only [hop, hcal, happ, hargs, hq] at hso
    split at hso
    rotate_left
    ·simp at hso
    rename_i t q' hq'
    injection hq' with hq'; subst hq'
    split at hso
    rotate_left
    ·simp at hso
    rename_i id' off' hqv
    simp only [Bool.and_eq_true, decide_eq_true_eq] at hso
    obtain ⟨⟨s0, s1⟩, s2⟩ := hso
    obtain ⟨e, he1, he2⟩ := List.any_eq_true.1 s1
    obtain ⟨je, hje⟩ := List.mem_iff_getElem?.1 he1
    have hlt : je < i := by have := (List.getElem?_eq_some_iff.1 hje).1; simp at this; omega
    rw [List.getElem?_take_of_lt hlt] at hje
    have hed : e.dst = some t := by simpa using he2
    have htl : t ∈ looks opsA.toList o := mem_looks (by rw [hop]; simp only [Op.operands, Call.operands, hcal]; simp; rw [← Array.mem_toList_iff, hargs]; simp)
    have hLe := (looks_pre h hR.closed hr htl).1 je hlt ⟨e, hje, hed⟩
    have hcopy : steady opsA.toList e je = true ∧ ∃ ty, e.op = .load ty (.tmp q) := by
     have := List.all_eq_true.1 s2 (e, je) (List.mem_zipIdx_iff_getElem?.2 hje)
     simp only [Bool.and_eq_true, Bool.or_eq_true, Bool.not_eq_true', bne_iff_ne, ne_eq] at this
     rcases this.2 with h | ⟨⟨h2, h3⟩, h4⟩
     ·exact absurd hed h
     ·refine ⟨h2, ?_⟩
      split at h4
      ·rename_i ty q' hop'
       simp at h4
       obtain ⟨⟨h5, h6⟩, h7⟩ := h4
       subst h5; exact ⟨ty, hop'⟩
      ·simp at h4
    obtain ⟨c1, ty, c3⟩ := hcopy
    have hql : q ∈ looks opsA.toList e := mem_looks (by rw [c3]; simp [Op.operands])
    refine hR.cur q i (Nat.le_of_lt hi) (fun j hj hw => ?_) (fun j hj hw => absurd hw (steady_spec c1 hql j (by omega)))
    have hjl : j < je := by
     rcases Nat.lt_or_ge j je with h' | h'
     ·exact h'
     ·exact absurd hw (steady_spec c1 hql j h')
    obtain ⟨ej, hej, hdj⟩ := hw
    have hrd := (draw_spec h.draw hje).2.2.2.2 j ej hjl hej
    have hb : ((befs opsA.toList []).getD je 0).testBit j = true := by
     unfold orderOk at hrd
     rw [Bool.or_eq_true] at hrd
     rcases hrd with h' | h'
     ·exact h'
     ·rw [Bool.and_eq_true] at h'
      exact absurd hql ((apart_spec h'.1).1 q hdj).1
    exact bef_closed hR.closed je e hje (hR.closed je e hje hLe) j hb
  have hp' : interp f (eval1 P pol k r i opsA.toList vals (fls i) (Ss m) o) = some (v, T) := by
   rw [eval1_congr hsame hq3, ← e1]; exact hp
  have hdoes : Does P o a w fun x w' => ∃ G', EffR P pol w G (Ss m) a k r i opsA.toList vals (fls i) o v T x w' G' := by
   by_cases hc : ∃ c fv, o.op = .call c ∧ c.callee = .value fv
   ·obtain ⟨c, fv, hop, hcal⟩ := hc
    exact call_does hF hR.inv hR.fr (hR.tok.sub e2) hop hcal hp'
   ·obtain ⟨x, w', G', hE⟩ := eff_ok hR.inv hR.fr (hR.tok.sub e2) hg hst (fun c fv hop hcal => hc ⟨c, fv, hop, hcal⟩) hp'
    exact hE.does
  refine hdoes _ _ fun x w' hx => ?_
  obtain ⟨G', hE⟩ := hx
  have hnm : ∀ y, o.op ≠ .move y := fun y e => by simp [effects, e] at hef
  have hnl : ∀ t y, o.op ≠ .load t y := fun t y e => by simp [effects, e] at hef
  exact hK _ _ _ _ _ (advance h hR hlen hr (x := x) (m' := i + 1) (by rw [hrr]; exact hE.rv) (by rw [hSS]; exact hE.inv) (by rw [hSS]; exact hR.ext.trans hE.ext) hE.ext.le hi e3 e4 (by rw [hfl1]; exact hE.tok) (ph_next hR h (by rw [hSS]; exact hE.ext)) (fun y _ e => absurd e (hnm y)) (fun ty q id off _ e => absurd e (hnl ty _)) (fun id off hs b hb => hE.sp id off (hs hef) b hb))
end
end
end Go.Dn
namespace Go.Dn
set_option linter.unusedVariables false
set_option linter.unusedSimpArgs false
section
variable {P : Program} {pol : Pol}
section
variable {f : Task → Option Out} {k r : Nat} {opsA : Array Oper} {S0 S1 : List Ob} {vs : Nat → List V} {fls : Nat → Fl} {Ss : Nat → List Ob} {ids : Nat → Nat} {rv : Nat → V}
variable {w0 : World} {G0 : Sg} {a0 : Act} {Q : Exit → Act → World → Prop}
theorem RI.start (h : Rg P pol f k r opsA.toList S0 S1 vs fls Ss ids rv) (hI : Inv w0 G0 S1) (hE : Ext w0 G0 S0 w0 G0 S1) (hold : ∀ b id, G0.own b = some (.obj id) → id < S0.length) (hf : Fr G0 (vs 0) a0) (htk : Toks w0 G0 a0 (fls 0)) {L : Nat → Prop} (hL : ∀ j, j < opsA.toList.length → ¬L j) :
  RI P pol k r opsA.toList S0 S1 vs fls Ss ids w0 G0 a0 L a0 w0 G0 (vs 0) 0 := by
 have lt_of : ∀ {j : Nat} {o : Oper}, opsA.toList[j]? = some o → j < opsA.toList.length := fun h => (List.getElem?_eq_some_iff.1 h).1
 refine ⟨by rw [h.s0]; exact hI, by rw [h.s0]; exact hE, hf, rfl, rfl, rfl, fun t b hb h1 _ => ?_, Nat.zero_le _, fun j hj => absurd hj (Nat.not_lt_zero _), fun j _ ⟨o, ho, _⟩ => hL j (lt_of ho), htk, fun j o ho ha _ => ?_, fun j o ho hLj => absurd hLj (hL j (lt_of ho)), fun _ _ => rfl, fun t q _ _ ⟨j, ⟨o, ho, _⟩, hLj⟩ _ => absurd hLj (hL j (lt_of ho)), fun _ _ _ _ _ _ _ _ _ => rfl, fun i t q id off _ _ _ ⟨j, ⟨o, ho, _⟩, hLj⟩ => absurd hLj (hL j (lt_of ho))⟩
 ·exact (h.vs_same b (Nat.zero_le _) hb fun j _ hj hw => hL j (by omega) (h1 j hj hw)).symm
 ·have := h.ids_eq j (Nat.le_of_lt (lt_of ho))
  exact ⟨fun b hb => by have := hold b _ hb; omega, by rw [h.s0]⟩
theorem RI.finish (h : Rg P pol f k r opsA.toList S0 S1 vs fls Ss ids rv) {L : Nat → Prop} {a : Act} {w : World} {G : Sg} {vals : List V} {m : Nat} (hR : RI P pol k r opsA.toList S0 S1 vs fls Ss ids w0 G0 a0 L a w G vals m) (hL : ∀ j, j < opsA.toList.length → L j) :
  Inv w G (Ss opsA.toList.length) ∧ Ext w0 G0 S0 w G (Ss opsA.toList.length) ∧ Fr G (vs opsA.toList.length) a ∧ Toks w G a (fls opsA.toList.length) := by
 obtain ⟨p1, p2⟩ := h.run_same opsA.toList.length hR.m_le (Nat.le_refl _) fun j h1 h2 hE => hR.pre2 j h1 hE (hL j h2)
 refine ⟨by rw [p1]; exact hR.inv, by rw [p1]; exact hR.ext, fun t => ?_, hR.tok.sub p2⟩
 rw [← hR.cur t _ (Nat.le_refl _) (fun j hj _ => hL j hj) (fun j hj ⟨o, ho, _⟩ => by have := (List.getElem?_eq_some_iff.1 ho).1; omega)]
 exact hR.fr t
theorem getD_set {l : Array Bool} {i j : Nat} (hi : i < l.size) : (l.setIfInBounds i true).getD j true = true ↔ l.getD j true = true ∨ j = i := by
 simp only [Array.getD_eq_getD_getElem?, Array.getElem?_setIfInBounds]
 by_cases e : i = j
 ·subst e; simp [hi]
 ·simp [e, Ne.symm e]
theorem any_ok (hF : GoodF P f) (h : Rg P pol f k r opsA.toList S0 S1 vs fls Ss ids rv) (hlen : (vs 0).length ≤ a0.tmps.size) 
  (hQ : ∀ a w G, Inv w G (Ss opsA.toList.length) → Ext w0 G0 S0 w G (Ss opsA.toList.length) → Fr G (vs opsA.toList.length) a → Toks w G a (fls opsA.toList.length) → a.tmps.size = a0.tmps.size → a.defers = a0.defers → Q .normal a w) :
  ∀ (fuel : Nat) (listed : Array Bool) (a : Act) (w : World) (G : Sg) (vals : List V) (m : Nat), listed.size = opsA.size → listed.toList.count false ≤ fuel → RI P pol k r opsA.toList S0 S1 vs fls Ss ids w0 G0 a0 (fun j => listed.getD j true = true) a w G vals m → wpAny P .any opsA Q fuel listed a w := by
 have hmin : ∀ (listed : Array Bool), listed.size = opsA.size → Region.ready .any opsA listed = [] → ∀ j, j < opsA.toList.length → listed.getD j true = true := by
  intro listed hs hr j
  induction j using Nat.strongRecOn with
  | _ j ih =>
   intro hj
   cases hl : listed.getD j true with
   | true => rfl
   | false =>
    have ho : opsA.toList[j]? = some opsA.toList[j] := List.getElem?_eq_getElem hj
    have : j ∈ Region.ready .any opsA listed := mem_ready.2 ⟨hl, opsA.toList[j], by rw [← Array.getElem?_toList]; exact ho, fun e he hb => by
     have hlt := (draw_spec h.draw ho).1 e (by simpa using he) hb
     have := ih e.on hlt (by omega)
     rw [Array.getD_eq_getD_getElem?] at this ⊢
     rw [Array.getElem?_eq_getElem (show e.on < listed.size by rw [hs]; simp at hj; omega)] at this ⊢
     simpa using this⟩
    rw [hr] at this; cases this
 intro fuel
 induction fuel with
 | zero =>
  intro listed a w G vals m hs hc hR
  have hall : ∀ j, j < opsA.toList.length → listed.getD j true = true := by
   intro j hj
   cases hl : listed.getD j true with
   | true => rfl
   | false =>
    have : false ∈ listed.toList := by
     rw [Array.getD_eq_getD_getElem?] at hl
     cases hx : listed[j]? with
     | none => rw [hx] at hl; simp at hl
     | some y => rw [hx] at hl; simp at hl; subst hl; exact List.mem_of_getElem? (by rw [Array.getElem?_toList]; exact hx)
    have := List.count_pos_iff.2 this
    omega
  obtain ⟨p1, p2, p3, p4⟩ := hR.finish h hall
  refine ⟨?_, hQ a w G p1 p2 p3 p4 hR.sz hR.df⟩
  cases hr : Region.ready .any opsA listed with
  | nil => rfl
  | cons i is =>
   have hm : i ∈ Region.ready .any opsA listed := by rw [hr]; simp
   obtain ⟨g1, o, g2, _⟩ := mem_ready.1 hm
   have := hall i (by have := (Array.getElem?_eq_some_iff.1 g2).1; simpa using this)
   rw [g1] at this; cases this
 | succ fuel ih =>
  intro listed a w G vals m hs hc hR
  refine ⟨fun hr => ?_, fun i hm => ?_⟩
  ·obtain ⟨p1, p2, p3, p4⟩ := hR.finish h (hmin listed hs hr)
   exact hQ a w G p1 p2 p3 p4 hR.sz hR.df
  ·obtain ⟨g1, o, g2, g3⟩ := mem_ready.1 hm
   have hi := (Array.getElem?_eq_some_iff.1 g2).1
   refine step_ok hF h hR hlen (i := i) (o := o) ⟨by rw [Array.getElem?_toList]; exact g2, by simp [g1], fun e he hb => ?_⟩ fun a' w' G' vals' m' hR' => ?_
   ·have := g3 e (by simpa using he) hb
    rw [Array.getD_eq_getD_getElem?] at this ⊢
    cases hx : listed[e.on]? with
    | none => rw [hx] at this; simp at this
    | some y => rw [hx] at this; simpa using this
   ·refine ih _ _ _ G' vals' m' (by simp [hs]) ?_ ?_
    ·have hl : listed.toList[i]? = some false := by
      rw [Array.getD_eq_getD_getElem?] at g1
      rw [Array.getElem?_toList]
      cases hx : listed[i]? with
      | none => rw [hx] at g1; simp at g1
      | some y => rw [hx] at g1; simp at g1; rw [g1]
     obtain ⟨hlt, hli⟩ := List.getElem?_eq_some_iff.1 hl
     rw [Array.toList_setIfInBounds, List.count_set hlt, hli, if_pos (by rfl), if_neg (by decide)]
     omega
    ·have : (fun j => (listed.setIfInBounds i true).getD j true = true) = Plus (fun j => listed.getD j true = true) i := by
      funext j; exact propext (getD_set (by omega))
     rw [this]; exact hR'
theorem text_ok (hF : GoodF P f) (h : Rg P pol f k r opsA.toList S0 S1 vs fls Ss ids rv) (hlen : (vs 0).length ≤ a0.tmps.size)
  (hQ : ∀ a w G, Inv w G (Ss opsA.toList.length) → Ext w0 G0 S0 w G (Ss opsA.toList.length) → Fr G (vs opsA.toList.length) a → Toks w G a (fls opsA.toList.length) → a.tmps.size = a0.tmps.size → a.defers = a0.defers → Q .normal a w) :
  ∀ (n i : Nat) (a : Act) (w : World) (G : Sg) (vals : List V) (m : Nat), i + n = opsA.size → RI P pol k r opsA.toList S0 S1 vs fls Ss ids w0 G0 a0 (fun j => j < i) a w G vals m → wpOps P opsA Q (List.range' i n) a w := by
 intro n
 induction n with
 | zero =>
  intro i a w G vals m hi hR
  obtain ⟨p1, p2, p3, p4⟩ := hR.finish h (fun j hj => by simp at hj; omega)
  exact hQ a w G p1 p2 p3 p4 hR.sz hR.df
 | succ n ih =>
  intro i a w G vals m hi hR
  rw [List.range'_succ, wpOps_cons]
  have ho : opsA.toList[i]? = some (opsA.toList[i]'(by simp; omega)) := List.getElem?_eq_getElem _
  refine step_ok hF h hR hlen (i := i) ⟨ho, by omega, fun e he hb => (draw_spec h.draw ho).1 e he hb⟩ fun a' w' G' vals' m' hR' => ?_
  refine ih (i + 1) a' w' G' vals' m' (by omega) ?_
  have : (fun j => j < i + 1) = Plus (fun j => j < i) i := by
   funext j; apply propext; unfold Plus; omega
  rw [this]; exact hR'
end
end
end Go.Dn
namespace Go.Dn
set_option linter.unusedVariables false
set_option linter.unusedSimpArgs false
section
variable {P : Program} {pol : Pol} {f : Task → Option Out}
theorem region_ok (hF : GoodF P f) (hmix : P.follows .mixedOrders = true) {k r id : Nat} {opsA : Array Oper} {draw : Bool} {vals : List V} {fl : Fl} {S : List Ob} {K : List V → Fl → List Ob → Tr} {res : Out} {a : Act} {w : World} {G : Sg}
  (h : interp f (evalRegion P pol k r opsA.toList draw vals fl S K) = some res) (hI : Inv w G S) (hf : Fr G vals a) (htk : Toks w G a fl) (hlen : vals.length ≤ a.tmps.size) :
  ∃ vals' fl' S', interp f (K vals' fl' S') = some res ∧ vals'.length = vals.length ∧ ∀ Q : Exit → Act → World → Prop, (∀ a' w' G', Inv w' G' S' → Ext w G S w' G' S' → Fr G' vals' a' → Toks w' G' a' fl' → a'.tmps.size = a.tmps.size → a'.defers = a.defers → Q .normal a' w') → (Code.region id opsA draw).wp P Q a w := by
 unfold evalRegion at h
 rw [interp_ob] at h
 obtain ⟨S1, hS1, h⟩ := Option.bind_eq_some_iff.1 h
 obtain ⟨vs, fls, Ss, ids, rv, e1, e2, e3, e4, htr, hk⟩ := trace_of _ _ _ _ _ _ h
 rw [interp_ift] at hk
 split at hk
 rotate_left
 ·simp at hk
 rename_i hdraw
 rw [interp_ift] at hk
 split at hk
 rotate_left
 ·simp at hk
 rename_i hsteal
 have hold : ∀ {w : World}, Inv w G S → ∀ b id, G.own b = some (.obj id) → id < S.length := fun hI b id hb => by
  obtain ⟨_, o, _, ho, _⟩ := hI.ob _ _ hb; exact oget_lt ho
 have hRg : ∀ {w : World}, Inv w G S → Rg P pol f k r opsA.toList S S1 vs fls Ss ids rv := fun hI => by
  obtain ⟨_, _, p3, p4, p5⟩ := allocs_ok _ _ _ _ hS1 hI
  exact ⟨htr, e3, e4, p3, p4, by rw [e1]; exact p5, by rw [e2]; exact hdraw, hsteal⟩
 refine ⟨vs opsA.toList.length, fls opsA.toList.length, Ss opsA.toList.length, hk, ?_, fun Q hQ => ?_⟩
 ·rw [(hRg hI).vlen _ (Nat.le_refl _), e1]
 ·cases draw with
  | true =>
   have hI1 : Inv { w with drawn := w.drawn + 1 } G S := ⟨hI.fz, hI.ob, hI.inj, hI.tk, hI.cl, hI.rf, hI.tb⟩
   have hE1 : Ext w G S { w with drawn := w.drawn + 1 } G S := ⟨rfl, rfl, rfl, Nat.le_refl _, fun _ _ _ h => h, fun _ _ h => h, fun _ _ _ => ⟨rfl, rfl, fun _ => rfl⟩, fun _ _ h _ => h, fun _ _ _ => rfl, Nat.le_refl _⟩
   obtain ⟨p1, p2, _⟩ := allocs_ok _ _ _ _ hS1 hI1
   refine wp_region_any hmix ?_
   refine any_ok hF (hRg hI1) (by rw [e1]; exact hlen) (a0 := a) (fun a' w' G' q1 q2 q3 q4 q5 q6 => hQ a' w' G' q1 (hE1.trans q2) q3 q4 q5 q6) opsA.size (Array.replicate opsA.size false) a _ G (vs 0) 0 (by simp) (by
    refine Nat.le_trans List.count_le_length ?_
    simp) ?_
   refine RI.start (hRg hI1) p1 p2 (hold hI1) (by rw [e1]; exact hf) (by rw [e2]; exact htk) fun j hj => ?_
   simp at hj
   simp [Array.getD_eq_getD_getElem?, hj]
  | false =>
   obtain ⟨p1, p2, _⟩ := allocs_ok _ _ _ _ hS1 hI
   refine wp_region ?_
   rw [List.range_eq_range']
   refine text_ok hF (hRg hI) (by rw [e1]; exact hlen) (a0 := a) (fun a' w' G' q1 q2 q3 q4 q5 q6 => hQ a' w' G' q1 q2 q3 q4 q5 q6) opsA.size 0 a w G (vs 0) 0 (by simp) ?_
   exact RI.start (hRg hI) p1 p2 (hold hI) (by rw [e1]; exact hf) (by rw [e2]; exact htk) fun j hj => by simp
end
end Go.Dn
namespace Go.Dn
set_option linter.unusedVariables false
set_option linter.unusedSimpArgs false
def cutL (n0 : Nat) (kp : Option Nat) : Loc → Option Loc
 | .obj id => if id < n0 then some (.obj id) else if kp = some id then some (.obj n0) else none
 | .cell id off => if id < n0 then some (.cell id off) else if kp = some id then some (.cell n0 off) else none
 | .slot _ => none
 | .ext => some .ext
def cutG (G : Sg) (n0 : Nat) (kp : Option Nat) : Sg := ⟨G.F, fun b => (G.own b).bind (cutL n0 kp)⟩
theorem cutS_eq (n0 : Nat) (S : List Ob) : cutS n0 S = lowS n0 S := rfl
section
variable {P : Program} {w : World} {G : Sg} {S : List Ob} {n0 : Nat}
theorem cut_obj {kp : Option Nat} {b i : Nat} (h : (cutG G n0 kp).own b = some (.obj i)) : (i < n0 ∧ G.own b = some (.obj i)) ∨ (i = n0 ∧ ∃ id, kp = some id ∧ n0 ≤ id ∧ G.own b = some (.obj id)) := by
 simp only [cutG] at h
 obtain ⟨ℓ, h1, h2⟩ := Option.bind_eq_some_iff.1 h
 cases ℓ with
 | obj id =>
  simp only [cutL] at h2
  split at h2
  ·injection h2 with h2; injection h2 with h2; subst h2; exact .inl ⟨by assumption, h1⟩
  ·split at h2
   ·injection h2 with h2; injection h2 with h2; exact .inr ⟨h2.symm, id, by assumption, by omega, h1⟩
   ·cases h2
 | cell id off =>
  simp only [cutL] at h2
  split at h2
  ·cases h2
  ·split at h2 <;> cases h2
 | slot q => simp [cutL] at h2
 | ext => simp [cutL] at h2
theorem cut_cell {kp : Option Nat} {b i off : Nat} (h : (cutG G n0 kp).own b = some (.cell i off)) : (i < n0 ∧ G.own b = some (.cell i off)) ∨ (i = n0 ∧ ∃ id, kp = some id ∧ n0 ≤ id ∧ G.own b = some (.cell id off)) := by
 simp only [cutG] at h
 obtain ⟨ℓ, h1, h2⟩ := Option.bind_eq_some_iff.1 h
 cases ℓ with
 | obj id =>
  simp only [cutL] at h2
  split at h2
  ·cases h2
  ·split at h2 <;> cases h2
 | cell id off' =>
  simp only [cutL] at h2
  split at h2
  ·injection h2 with h2; injection h2 with h2 h3; subst h2; subst h3; exact .inl ⟨by assumption, h1⟩
  ·split at h2
   ·injection h2 with h2; injection h2 with h2 h3; subst h3; exact .inr ⟨h2.symm, id, by assumption, by omega, h1⟩
   ·cases h2
 | slot q => simp [cutL] at h2
 | ext => simp [cutL] at h2
theorem cut_own_lo {kp : Option Nat} {b i : Nat} (hi : i < n0) (h : G.own b = some (.obj i)) : (cutG G n0 kp).own b = some (.obj i) := by
 simp only [cutG, h, Option.bind_some, cutL, if_pos hi]
theorem cut_own_kp {b i : Nat} (hi : n0 ≤ i) (h : G.own b = some (.obj i)) : (cutG G n0 (some i)).own b = some (.obj n0) := by
 simp only [cutG, h, Option.bind_some, cutL]; rw [if_neg (by omega), if_pos trivial]
theorem cut_some {kp : Option Nat} {b : Nat} {ℓ : Loc} (h : (cutG G n0 kp).own b = some ℓ) : ∃ ℓ', G.own b = some ℓ' := by
 simp only [cutG] at h
 obtain ⟨ℓ', h1, _⟩ := Option.bind_eq_some_iff.1 h
 exact ⟨ℓ', h1⟩
theorem cut_ok {kp : Option Nat} {T : List Ob} {wi : World} {Gi : Sg} {Si : List Ob} (hI : Inv w G S) (hE : Ext wi Gi Si w G S) (hIi : Inv wi Gi Si) (hn : Si.length = n0) (hn0 : n0 ≤ S.length)
  (hT : kp = none ∧ T = cutS n0 S ∨ ∃ id cs fl, kp = some id ∧ n0 ≤ id ∧ oget S id = some (.cells cs fl) ∧ refsLts n0 cs = true ∧ T = .cells cs fl :: cutS n0 S) :
  Inv w (cutG G n0 kp) T ∧ Ext wi Gi Si w (cutG G n0 kp) T ∧ (∀ x v, refsLt n0 x = true → RV G x v → RV (cutG G n0 kp) x v) := by
 have hlift : ∀ x v, refsLt n0 x = true → RV G x v → RV (cutG G n0 kp) x v := fun x v hr hx =>
  RV.lift (A := G) (B := cutG G n0 kp) (n := n0) (fun _ _ _ h => h) (fun b i hi h => cut_own_lo hi h) x v hr hx
 have hcl := lowS_length (S := S) hn0
 have glo : ∀ id, id < n0 → oget T id = oget S id := by
  intro id hid
  rcases hT with ⟨_, rfl⟩ | ⟨_, _, _, _, _, _, _, rfl⟩
  ·exact lowS_get hn0 hid
  ·rw [oget_cons_lt (by rw [cutS_eq, hcl]; exact hid)]; exact lowS_get hn0 hid
 have hTl : n0 ≤ T.length := by
  rcases hT with ⟨_, rfl⟩ | ⟨_, _, _, _, _, _, _, rfl⟩
  ·rw [cutS_eq, hcl]; exact Nat.le_refl _
  ·simp [cutS_eq, hcl]
 refine ⟨⟨hI.fz, fun b i h => ?_, fun b b' i h h' => ?_, fun b ℓ h => ?_, fun b i off h => ?_, fun i cs fl h => ?_, hI.tb_of fun c _ h0 => ⟨rfl, by simp [cutG, h0]⟩⟩, ⟨hE.os, hE.tape, hE.output, hE.size, hE.F, fun b i h => ?_, fun b hb h => ?_, fun b i h hi => ?_, fun i hi hno => ?_, by rw [hn]; exact hTl⟩, hlift⟩
 ·have flags : ∀ {id : Nat} {cs : List V} {fl : List (Nat × Nat)} {go : Obj}, ObR w G id (.cells cs fl) go → refsLts n0 cs = true → (id < n0 ∧ i = id ∨ n0 ≤ id ∧ kp = some id ∧ i = n0) → ObR w (cutG G n0 kp) i (.cells cs fl) go := by
   intro id cs fl go h4 hrf hcase
   cases go <;> simp only [ObR] at h4 ⊢
   obtain ⟨p1, p2, p3⟩ := h4
   refine ⟨p1, fun o c hc => ?_, fun o sz hm => ?_⟩
   ·obtain ⟨v, hv, hr, hf, ho⟩ := p2 o c hc
    exact ⟨v, hv, hlift c v (refsLts_get.1 hrf c (List.mem_of_getElem? hc)) hr, hf, ho⟩
   ·refine (p3 o sz hm).map fun v hv ht => ⟨v, hv, ?_⟩
    rcases ht with ht | ⟨blk, hb, ht⟩
    ·exact .inl ht
    ·refine .inr ⟨blk, ?_, ht⟩
     simp only [cutG, hb, Option.bind_some, cutL]
     rcases hcase with ⟨e1, e2⟩ | ⟨e1, e2, e3⟩
     ·rw [if_pos e1, e2]
     ·rw [if_neg (by omega), if_pos e2, e3]
  rcases cut_obj h with ⟨h1, h2⟩ | ⟨h1, id, h2, h3, h4⟩
  ·obtain ⟨q1, o, go, q2, q3, q4⟩ := hI.ob _ _ h2
   refine ⟨q1, o, go, by rw [glo _ h1]; exact q2, q3, ?_⟩
   cases o with
   | cells cs fl => exact flags q4 (refsLts_mono (by omega) _ (hI.rf _ _ _ q2)) (.inl ⟨h1, rfl⟩)
   | map es => cases go <;> simp only [ObR] at q4 ⊢; exact q4
   | iter s pos => cases go <;> simp only [ObR] at q4 ⊢; exact q4
   | dead => cases go <;> simp only [ObR] at q4
  ·obtain ⟨q1, o, go, q2, q3, q4⟩ := hI.ob _ _ h4
   rcases hT with ⟨e, _⟩ | ⟨id', cs, fl, e1, e2, e3, e4, rfl⟩
   ·rw [e] at h2; cases h2
   ·rw [h2] at e1; injection e1 with e1; subst e1
    rw [e3] at q2; injection q2 with q2; subst q2
    refine ⟨q1, _, go, ?_, q3, flags q4 e4 (.inr ⟨h3, h2, h1⟩)⟩
    subst h1
    simp only [oget, cutS_eq, hcl, if_true]
 ·rcases cut_obj h with ⟨h1, h2⟩ | ⟨h1, id, h2, h3, h4⟩ <;> rcases cut_obj h' with ⟨k1, k2⟩ | ⟨k1, id', k2, k3, k4⟩
  ·exact hI.inj _ _ _ h2 k2
  ·omega
  ·omega
  ·rw [h2] at k2; injection k2 with k2; subst k2; exact hI.inj _ _ _ h4 k4
 ·obtain ⟨ℓ', h'⟩ := cut_some h; exact hI.tk _ _ h'
 ·rcases cut_cell h with ⟨h1, h2⟩ | ⟨h1, id, h2, h3, h4⟩
  ·omega
  ·rcases hT with ⟨e, _⟩ | ⟨id', cs, fl, e1, e2, e3, e4, rfl⟩
   ·rw [e] at h2; cases h2
   ·simp [cutS_eq, hcl]; omega
 ·rcases Nat.lt_or_ge i n0 with hi | hi
  ·rw [glo _ hi] at h; exact hI.rf _ _ _ h
  ·have hlt := oget_lt h
   rcases hT with ⟨e, rfl⟩ | ⟨id', cs', fl', e1, e2, e3, e4, rfl⟩
   ·rw [cutS_eq, hcl] at hlt; omega
   ·have : i = n0 := by simp [cutS_eq, hcl] at hlt; omega
    subst this
    simp only [oget, cutS_eq, hcl, if_true] at h
    injection h with h; injection h with h _; subst h
    exact refsLts_mono (by omega) _ e4
 ·have hi : i < n0 := by obtain ⟨_, o, _, ho, _⟩ := hIi.ob _ _ h; have := oget_lt ho; omega
  exact cut_own_lo hi (hE.obj _ _ h)
 ·obtain ⟨k1, k2, k3⟩ := hE.keep b hb h
  refine ⟨?_, k2, k3⟩
  simp only [cutG]
  rcases h with h | h
  ·rw [k1, h]; rfl
  ·rw [k1, h]; rfl
 ·rcases cut_obj h with ⟨h1, h2⟩ | ⟨h1, _⟩
  ·exact hE.newo _ _ h2 hi
  ·omega
 ·rw [glo _ (by omega)]; exact hE.ph i hi hno
theorem out1_ok {v : V} {x : Value} {o : Out} {wi : World} {Gi : Sg} {Si : List Ob} (hI : Inv w G S) (hE : Ext wi Gi Si w G S) (hIi : Inv wi Gi Si) (hn : Si.length = n0) (hv : RV G v x) (h : out1 n0 v S = some o) :
  ∃ G', RV G' o.1 x ∧ Inv w G' o.2 ∧ Ext wi Gi Si w G' o.2 := by
 have hn0 : n0 ≤ S.length := by rw [← hn]; exact hE.len
 obtain ⟨p1, p2, p3⟩ := cut_ok (kp := none) hI hE hIi hn hn0 (.inl ⟨rfl, rfl⟩)
 have plain : refsLt n0 v = true → o = (v, cutS n0 S) → ∃ G', RV G' o.1 x ∧ Inv w G' o.2 ∧ Ext wi Gi Si w G' o.2 := by
  intro hr e; subst e; exact ⟨_, p3 _ _ hr hv, p1, p2⟩
 unfold out1 at h
 split at h
 ·injection h with h; exact plain rfl h.symm
 ·injection h with h; exact plain rfl h.symm
 ·injection h with h; exact plain rfl h.symm
 ·split at h
  ·rename_i hr
   injection h with h
   exact plain (by simp only [refsLt]; exact refsLts_mono (Nat.zero_le _) _ hr) h.symm
  ·simp at h
 ·rename_i id off
  split at h
  ·rename_i hid
   split at h
   ·rename_i cs fl hob
    split at h
    ·rename_i hc
     injection h with h; subst h
     obtain ⟨q1, q2, q3⟩ := cut_ok (kp := some id) hI hE hIi hn hn0 (.inr ⟨id, cs, fl, rfl, hid, hob, hc.1, rfl⟩)
     refine ⟨_, ?_, q1, q2⟩
     simp only [RV] at hv ⊢
     obtain ⟨blk, h1, h2⟩ := hv
     exact ⟨blk, cut_own_kp hid h1, h2⟩
    ·simp at h
   ·simp at h
  ·injection h with h; exact plain (by simp [refsLt]; omega) h.symm
 ·rename_i id off len
  split at h
  ·rename_i hid
   split at h
   ·rename_i cs fl hob
    split at h
    ·rename_i hc
     injection h with h; subst h
     obtain ⟨q1, q2, q3⟩ := cut_ok (kp := some id) hI hE hIi hn hn0 (.inr ⟨id, cs, fl, rfl, hid, hob, hc.1, rfl⟩)
     refine ⟨_, ?_, q1, q2⟩
     simp only [RV] at hv ⊢
     obtain ⟨A, C, h1, h2, h3⟩ := hv
     exact ⟨A, C, h1, h2, fun hp => by obtain ⟨blk, h4, h5⟩ := h3 hp; exact ⟨blk, cut_own_kp hid h4, h5⟩⟩
    ·simp at h
   ·simp at h
  ·injection h with h; exact plain (by simp [refsLt]; omega) h.symm
 ·simp at h
def trimL (m : Nat) : Loc → Option Loc
 | .obj id => if id < m then some (.obj id) else none
 | .cell id off => if id < m then some (.cell id off) else none
 | ℓ => some ℓ
def trimG (G : Sg) (m : Nat) : Sg := ⟨G.F, fun b => (G.own b).bind (trimL m)⟩
theorem trim_inv {m b : Nat} {ℓ : Loc} (h : (trimG G m).own b = some ℓ) : G.own b = some ℓ ∧ trimL m ℓ = some ℓ := by
 simp only [trimG] at h
 obtain ⟨ℓ', h1, h2⟩ := Option.bind_eq_some_iff.1 h
 have : ℓ' = ℓ := by
  cases ℓ' <;> simp only [trimL] at h2
  ·split at h2
   ·injection h2
   ·cases h2
  ·split at h2
   ·injection h2
   ·cases h2
  ·injection h2
  ·injection h2
 subst this
 exact ⟨h1, h2⟩
theorem trim_of {m b : Nat} {ℓ : Loc} (h : G.own b = some ℓ) (hm : trimL m ℓ = some ℓ) : (trimG G m).own b = some ℓ := by simp only [trimG, h, Option.bind_some, hm]
theorem trim_ok {m : Nat} {wi : World} {Gi : Sg} {Si : List Ob} (hI : Inv w G S) (hE : Ext wi Gi Si w G S) (hIi : Inv wi Gi Si) (hn : Si.length ≤ m) (hm : m ≤ S.length) :
  Inv w (trimG G m) (cutS m S) ∧ Ext wi Gi Si w (trimG G m) (cutS m S) ∧ (∀ x v, refsLt m x = true → RV G x v → RV (trimG G m) x v) ∧ ∀ q z v, TokR w G (.slot q) z v → TokR w (trimG G m) (.slot q) z v := by
 have hcl := lowS_length (S := S) hm
 have glo : ∀ id, id < m → oget (cutS m S) id = oget S id := fun id hid => lowS_get hm hid
 have obj : ∀ {b i : Nat}, (trimG G m).own b = some (.obj i) → i < m ∧ G.own b = some (.obj i) := by
  intro b i h
  obtain ⟨h1, h2⟩ := trim_inv h
  simp only [trimL] at h2
  split at h2
  ·exact ⟨by assumption, h1⟩
  ·cases h2
 have cell : ∀ {b i o : Nat}, (trimG G m).own b = some (.cell i o) → i < m ∧ G.own b = some (.cell i o) := by
  intro b i o h
  obtain ⟨h1, h2⟩ := trim_inv h
  simp only [trimL] at h2
  split at h2
  ·exact ⟨by assumption, h1⟩
  ·cases h2
 have hlift : ∀ x v, refsLt m x = true → RV G x v → RV (trimG G m) x v := fun x v hr hx =>
  RV.lift (A := G) (B := trimG G m) (n := m) (fun _ _ _ h => h) (fun b i hi h => trim_of h (by simp [trimL, hi])) x v hr hx
 refine ⟨⟨hI.fz, fun b i h => ?_, fun b b' i h h' => hI.inj _ _ _ (obj h).2 (obj h').2, fun b ℓ h => hI.tk _ _ (trim_inv h).1, fun b i off h => ?_, fun i cs fl h => ?_, hI.tb_of fun c _ h0 => ⟨rfl, by simp [trimG, h0]⟩⟩, ⟨hE.os, hE.tape, hE.output, hE.size, hE.F, fun b i h => ?_, fun b hb h => ?_, fun b i h hi => hE.newo _ _ (obj h).2 hi, fun i hi hno => ?_, by rw [cutS_eq, hcl]; exact hn⟩, hlift, fun q z v ht => ?_⟩
 ·obtain ⟨h1, h2⟩ := obj h
  obtain ⟨q1, o, go, q2, q3, q4⟩ := hI.ob _ _ h2
  refine ⟨q1, o, go, by rw [glo _ h1]; exact q2, q3, ?_⟩
  cases o with
  | cells cs fl =>
   have hrf := hI.rf _ _ _ q2
   cases go <;> simp only [ObR] at q4 ⊢
   obtain ⟨p1, p2, p3⟩ := q4
   refine ⟨p1, fun o c hc => ?_, fun o sz hm => ?_⟩
   ·obtain ⟨v, hv, hr, hf, ho⟩ := p2 o c hc
    exact ⟨v, hv, hlift c v (refsLt_mono (by omega) c (refsLts_get.1 hrf c (List.mem_of_getElem? hc))) hr, hf, ho⟩
   ·refine (p3 o sz hm).map fun v hv ht => ⟨v, hv, ?_⟩
    rcases ht with ht | ⟨blk, hb, ht⟩
    ·exact .inl ht
    ·exact .inr ⟨blk, trim_of hb (by simp [trimL, h1]), ht⟩
  | map es => cases go <;> simp only [ObR] at q4 ⊢; exact q4
  | iter s pos => cases go <;> simp only [ObR] at q4 ⊢; exact q4
  | dead => cases go <;> simp only [ObR] at q4
 ·have := (cell h).1; rw [cutS_eq, hcl]; exact this
 ·have hlt := oget_lt h
  rw [cutS_eq, hcl] at hlt
  rw [glo _ hlt] at h; exact hI.rf _ _ _ h
 ·have hi : i < m := by obtain ⟨_, o, _, ho, _⟩ := hIi.ob _ _ h; have := oget_lt ho; omega
  exact trim_of (hE.obj _ _ h) (by simp [trimL, hi])
 ·obtain ⟨k1, k2, k3⟩ := hE.keep b hb h
  refine ⟨?_, k2, k3⟩
  simp only [trimG]
  rcases h with h | h
  ·rw [k1, h]; rfl
  ·rw [k1, h]; rfl
 ·rw [glo _ (by omega)]; exact hE.ph _ hi hno
 ·rcases ht with ht | ⟨blk, hb, ht⟩
  ·exact .inl ht
  ·exact .inr ⟨blk, trim_of hb rfl, ht⟩
end
end Go.Dn
namespace Go.Dn
set_option linter.unusedVariables false
set_option linter.unusedSimpArgs false
section
variable {P : Program} {w : World} {G : Sg} {S : List Ob} {n0 : Nat}
def resR (tmps : Array Value) : ResultVar → Sem Value
 | .tmp t => pure (tmps.getD t undef)
 | .cell ad t => do loadVar t (← asAddr (tmps.getD ad undef))
theorem resV_ok (hI : Inv w G S) {vals : List V} {a : Act} (hf : Fr G vals a) {rv : ResultVar} {v : V} (h : resV P vals S rv = some v) :
  ∃ x, (resR a.tmps rv).run P w = .ok x w ∧ RV G v x := by
 cases rv with
 | tmp t =>
  simp only [resV, Option.some.injEq] at h; subst h
  exact ⟨_, rfl, hf t⟩
 | cell ad t =>
  simp only [resV, bind, Option.bind_eq_some_iff] at h
  obtain ⟨g, hg, n, hn, h⟩ := h
  obtain ⟨x, hx, hr⟩ := load_ok hI hn hg (hf ad) h
  refine ⟨x, ?_, hr⟩
  have hra := hf ad
  have hp : ∃ A, a.tmps.getD ad undef = .pointer (some A) := by
   unfold o_load at h
   split at h
   ·rename_i e; rw [e] at hra; simp only [RV] at hra; obtain ⟨_, _, _, e, _⟩ := hra; exact ⟨_, e⟩
   ·rename_i e; rw [e] at hra; simp only [RV] at hra; obtain ⟨_, _, e⟩ := hra; exact ⟨_, e⟩
   ·simp at h
  obtain ⟨A, hA⟩ := hp
  rw [hA] at hx
  simp only [resR, hA]
  simpa [Instr.loadAt, Instr.sureAddr, asAddr] using hx
theorem resVs_ok (hI : Inv w G S) {vals : List V} {a : Act} (hf : Fr G vals a) : ∀ {rs : List ResultVar} {vs : List V}, resVs P vals S rs = some vs →
  ∃ xs : List Value, (rs.mapM (resR a.tmps)).run P w = .ok xs w ∧ RVs G vs xs
 | [], vs, h => by simp [resVs] at h; subst h; exact ⟨[], rfl, by simp only [RVs]⟩
 | r :: rs, vs, h => by
  simp only [resVs] at h
  split at h
  ·rename_i v vs' hv hvs
   injection h with h; subst h
   obtain ⟨x, hx, hr⟩ := resV_ok (P := P) hI hf hv
   obtain ⟨xs, hxs, hrs⟩ := resVs_ok hI hf hvs
   refine ⟨x :: xs, ?_, by rw [RVs_cons]; exact ⟨hr, hrs⟩⟩
   rw [List.mapM_cons]
   simp only [Sem.run_bind, hx, Result.andThen_ok, hxs, Sem.run_pure]
  ·simp at h
theorem fin_ok {f : Task → Option Out} {fn : Func} {vals : List V} {a : Act} {o : Out} {wi : World} {Gi : Sg} {Si : List Ob} (hI : Inv w G S) (hE : Ext wi Gi Si w G S) (hIi : Inv wi Gi Si) (hn : Si.length = n0) (hf : Fr G vals a) (h : interp f (fin P fn n0 vals S) = some o) :
  ∃ x, (results fn a.tmps).run P w = .ok x w ∧ ∃ G', RV G' o.1 x ∧ Inv w G' o.2 ∧ Ext wi Gi Si w G' o.2 := by
 unfold fin at h
 rw [interp_ob] at h
 obtain ⟨vs, hvs, h⟩ := Option.bind_eq_some_iff.1 h
 obtain ⟨xs, hxs, hrs⟩ := resVs_ok (P := P) hI hf hvs
 have hm : (fn.results.mapM (resR a.tmps)).run P w = .ok xs.toArray w := by
  rw [← Array.toArray_toList (xs := fn.results), List.mapM_toArray]
  simp [hxs]
 have hres : (results fn a.tmps).run P w = .ok (if h : xs.toArray.size = 1 then xs.toArray[0] else .tuple xs.toArray) w := by
  have : results fn a.tmps = (do let vs ← fn.results.mapM (resR a.tmps); pure (if h : vs.size = 1 then vs[0] else .tuple vs)) := by
   unfold results
   congr 1
  rw [this]
  simp only [Sem.run_bind, hm, Result.andThen_ok, Sem.run_pure]
 split at h
 ·rename_i v
  rw [interp_ob] at h
  obtain ⟨o', ho', h⟩ := Option.bind_eq_some_iff.1 h
  simp only [interp, Option.some.injEq] at h; subst h
  simp only [RVs] at hrs
  obtain ⟨x, r, rfl, hr, rfl⟩ := hrs
  exact ⟨x, by rw [hres]; simp, out1_ok hI hE hIi hn hr ho'⟩
 ·rename_i hno
  rw [interp_ob] at h
  obtain ⟨o', ho', h⟩ := Option.bind_eq_some_iff.1 h
  simp only [interp, Option.some.injEq] at h; subst h
  have hl := RVs.length hrs
  have hne : xs.length ≠ 1 := by
   intro e
   rw [hl] at e
   obtain ⟨v, hv⟩ := List.length_eq_one_iff.1 e
   exact hno v hv
  refine ⟨.tuple xs.toArray, by rw [hres]; simp [hne], out1_ok hI hE hIi hn (v := .t vs) ?_ ho'⟩
  simp only [RV]
  exact ⟨_, rfl, by simpa using hrs⟩
end
end Go.Dn
namespace Go.Dn
set_option linter.unusedVariables false
set_option linter.unusedSimpArgs false
section
variable {P : Program} {pol : Pol}
def Leave (P : Program) (k : Nat) (items : List Item) (a : Act) (w : World) (R : Value → World → Prop) : Prop :=
 ∀ (b : Frame) (cs : List Frame), b.fn = k → b.kind = .normal → ∃ x w' fr, R x w' ∧ Steps P (lone (b.at a items) cs w) (lone fr cs w') ∧ fr.fn = k ∧ fr.leaving P w' (.returned x)
theorem Leave.step {k : Nat} {items items' : List Item} {a : Act} {w : World} {R : Value → World → Prop} (h : Leave P k items' a w R) (hs : ∀ (b : Frame) (cs : List Frame), Go.step P (lone (b.at a items) cs w) = .next (lone (b.at a items') cs w)) : Leave P k items a w R := by
 intro b cs hb hk
 obtain ⟨x, w', fr, h1, h2, h3, h4⟩ := h b cs hb hk
 exact ⟨x, w', fr, h1, .head (hs b cs) h2, h3, h4⟩
structure St (w0 : World) (G0 : Sg) (S0 : List Ob) (nt : Nat) (vals : List V) (fl : Fl) (S : List Ob) (a : Act) (w : World) (G : Sg) : Prop where
 inv : Inv w G S
 ext : Ext w0 G0 S0 w G S
 fr : Fr G vals a
 tok : Toks w G a fl
 vl : vals.length ≤ nt
 sz : a.tmps.size = nt
 df : a.defers = []
def Ans (w0 : World) (G0 : Sg) (S0 : List Ob) (o : Out) (x : Value) (w' : World) : Prop := ∃ G', RV G' o.1 x ∧ Inv w' G' o.2 ∧ Ext w0 G0 S0 w' G' o.2
def LeaveE (P : Program) (k : Nat) (items : List Item) (e : Option Nat) (a : Act) (w : World) (R : Value → World → Prop) : Prop :=
 match e with
 | none => Leave P k items a w R
 | some id => ∃ items', exitTo id items = some items' ∧ Leave P k items' a w R
variable {f : Task → Option Out} {k n0 nt : Nat} {w0 : World} {G0 : Sg} {S0 : List Ob}
def KOk (P : Program) (f : Task → Option Out) (k nt : Nat) (w0 : World) (G0 : Sg) (S0 : List Ob) (items : List Item) (K : Kont) : Prop :=
 ∀ e vals fl S res, interp f (K e vals fl S) = some res → ∀ a w G, St w0 G0 S0 nt vals fl S a w G → LeaveE P k items e a w (Ans w0 G0 S0 res)
def itemsAt : List Bool → Code → List Item → Option (Code × List Item)
 | [], c, rest => some (c, rest)
 | false :: p, .seq a b, rest => itemsAt p a (.code b :: rest)
 | true :: p, .seq _ b, rest => itemsAt p b rest
 | false :: p, .cond _ a _, rest => itemsAt p a rest
 | true :: p, .cond _ _ b, rest => itemsAt p b rest
 | false :: p, .block id c, rest => itemsAt p c (.inBlock id :: rest)
 | false :: p, .loop c, rest => itemsAt p c (.inLoop c :: rest)
 | _, _, _ => none
def startAt (c : Code) (rest : List Item) : List Item :=
 match c with
 | .loop b => .code b :: .inLoop b :: rest
 | c => .code c :: rest
theorem itemsAt_append {c x : Code} {rest r1 : List Item} : ∀ {p : List Bool} {q : List Bool}, itemsAt p c rest = some (x, r1) → itemsAt (p ++ q) c rest = itemsAt q x r1 := by
 intro p
 induction p generalizing c rest with
 | nil => intro q h; simp [itemsAt] at h; obtain ⟨rfl, rfl⟩ := h; rfl
 | cons t p ih =>
  intro q h
  cases t <;> cases c <;> simp only [itemsAt] at h <;> first | (simp at h; done) | (simp only [List.cons_append, itemsAt]; exact ih h)
def GoodAt (P : Program) (f : Task → Option Out) (k nt : Nat) (c0 : Code) : Prop :=
 ∀ n0 path vals fl S o, f (.at_ k n0 path vals fl S) = some o → ∀ w0 G0 S0, Inv w0 G0 S0 → S0.length = n0 → ∀ a w G, St w0 G0 S0 nt vals fl S a w G → ∀ x rest, itemsAt path.reverse c0 [] = some (x, rest) → Leave P k (startAt x rest) a w (Ans w0 G0 S0 o)
theorem clear_get (live : List Nat) : ∀ (vals : List V) (i t : Nat), (clearFrom live i vals).getD t .u = vals.getD t .u ∨ (clearFrom live i vals).getD t .u = .u
 | [], i, t => .inl rfl
 | v :: vals, i, 0 => by
  simp only [clearFrom]
  split
  ·exact .inl rfl
  ·exact .inr rfl
 | v :: vals, i, t + 1 => by
  have := clear_get live vals (i + 1) t
  simpa [clearFrom] using this
theorem clear_len (live : List Nat) : ∀ (vals : List V) (i : Nat), (clearFrom live i vals).length = vals.length
 | [], i => rfl
 | v :: vals, i => by simp [clearFrom, clear_len live vals (i + 1)]
theorem St.clear {vals : List V} {fl : Fl} {S : List Ob} {a : Act} {w : World} {G : Sg} (h : St w0 G0 S0 nt vals fl S a w G) (live : List Nat) (hI0 : Inv w0 G0 S0) (hn : S0.length = n0) : ∃ G', St w0 G0 S0 nt (clearFrom live 0 vals) (clearF live fl) (trimS n0 (clearFrom live 0 vals) S) a w G' := by
 have hfr : Fr G (clearFrom live 0 vals) a := fun t => by
  rcases clear_get live vals 0 t with e | e
  ·rw [e]; exact h.fr t
  ·rw [e]; simp only [RV]
 have htk : Toks w G a (clearF live fl) := h.tok.sub fun x hx => (List.mem_filter.1 hx).1
 have hvl : (clearFrom live 0 vals).length ≤ nt := by rw [clear_len]; exact h.vl
 rcases Nat.lt_or_ge S.length (max n0 (bnds (clearFrom live 0 vals))) with hm | hm
 ·have : trimS n0 (clearFrom live 0 vals) S = S := by unfold trimS cutS; rw [Nat.sub_eq_zero_of_le (by omega)]; rfl
  rw [this]
  exact ⟨G, h.inv, h.ext, hfr, htk, hvl, h.sz, h.df⟩
 ·obtain ⟨t1, t2, t3, t4⟩ := trim_ok h.inv h.ext hI0 (by rw [hn]; exact Nat.le_max_left _ _) hm
  refine ⟨_, t1, t2, fun t => ?_, fun q z hz => ?_, hvl, h.sz, h.df⟩
  ·refine t3 _ _ ?_ (hfr t)
   rcases Nat.lt_or_ge t (clearFrom live 0 vals).length with ht | ht
   ·refine refsLts_get.1 ((refsLts_bnds _ _).2 (Nat.le_max_right n0 (bnds (clearFrom live 0 vals)))) _ ?_
    rw [List.getD_eq_getElem?_getD, List.getElem?_eq_getElem ht]
    exact List.getElem_mem ht
   ·rw [List.getD_eq_getElem?_getD, List.getElem?_eq_none ht]; rfl
  ·rcases htk q z hz with e | e
   ·exact .inl e
   ·exact .inr (t4 _ _ _ e)
theorem goto_ok {c0 x : Code} {rest : List Item} (hA : GoodAt P f k nt c0) (hI0 : Inv w0 G0 S0) (hn : S0.length = n0) {path : List Bool} (hit : itemsAt path.reverse c0 [] = some (x, rest)) {vals : List V} {fl : Fl} {S : List Ob} {res : Out} (h : interp f (goAt pol k n0 path vals fl S) = some res) {a : Act} {w : World} {G : Sg} (hs : St w0 G0 S0 nt vals fl S a w G) :
  Leave P k (startAt x rest) a w (Ans w0 G0 S0 res) := by
 unfold goAt at h
 split at h
 ·rename_i live _
  rw [interp_call] at h
  obtain ⟨o, ho, h⟩ := Option.bind_eq_some_iff.1 h
  simp only [interp, Option.some.injEq] at h; subst h
  obtain ⟨G', hs'⟩ := hs.clear live hI0 hn
  exact hA _ _ _ _ _ _ ho w0 G0 S0 hI0 hn a w G' hs' x rest hit
 ·rw [interp_call] at h
  obtain ⟨o, ho, h⟩ := Option.bind_eq_some_iff.1 h
  simp only [interp, Option.some.injEq] at h; subst h
  exact hA _ _ _ _ _ _ ho w0 G0 S0 hI0 hn a w G hs x rest hit
end
end Go.Dn
namespace Go.Dn
set_option linter.unusedVariables false
set_option linter.unusedSimpArgs false
section
variable {P : Program} {pol : Pol}
variable {f : Task → Option Out} {k n0 nt : Nat} {w0 : World} {G0 : Sg} {S0 : List Ob}
theorem leave_fin {fn : Func} (hfn : P.funcs[k]? = some fn) {items : List Item} {a : Act} {w : World} {G : Sg} {vals : List V} {fl : Fl} {S : List Ob} {res : Out} (hI0 : Inv w0 G0 S0) (hn : S0.length = n0) (hs : St w0 G0 S0 nt vals fl S a w G) (h : interp f (fin P fn n0 vals S) = some res)
  (hstep : ∀ (b : Frame) (cs : List Frame), Go.step P (lone (b.at a items) cs w) = .next (lone { b.at a items with mode := .returning } cs w)) : Leave P k items a w (Ans w0 G0 S0 res) := by
 obtain ⟨x, hx, hA⟩ := fin_ok hs.inv hs.ext hI0 hn hs.fr h
 intro b cs hb hk
 refine ⟨x, w, { b.at a items with mode := .returning }, hA, .one (hstep b cs), hb, rfl, hs.df, hk, fn, ?_, hx⟩
 rw [← hfn, ← hb]; rfl
theorem leave_start {c : Code} {rest : List Item} {a : Act} {w : World} {R : Value → World → Prop} (h : Leave P k (startAt c rest) a w R) : Leave P k (.code c :: rest) a w R := by
 cases c with
 | loop b => exact h.step fun b cs => step_loop
 | _ => exact h
theorem evalCode_ok (hF : GoodF P f) (hmix : P.follows .mixedOrders = true) {fn : Func} (hfn : P.funcs[k]? = some fn) {c0 : Code} (hA : GoodAt P f k nt c0) (hI0 : Inv w0 G0 S0) (hn : S0.length = n0) {res : Out} : ∀ (c : Code) (path : List Bool) (K : Kont) (rest : List Item), itemsAt path.reverse c0 [] = some (c, rest) → KOk P f k nt w0 G0 S0 rest K →
  ∀ (vals : List V) (fl : Fl) (S : List Ob), interp f (evalCode P pol fn k n0 c path K vals fl S) = some res → ∀ (a : Act) (w : World) (G : Sg), St w0 G0 S0 nt vals fl S a w G → Leave P k (.code c :: rest) a w (Ans w0 G0 S0 res)
 | .skip, path, K, rest, hit, hK, vals, fl, S, h, a, w, G, hs => by
  simp only [evalCode] at h
  exact (hK none vals fl S res h a w G hs).step fun b cs => step_skip
 | .region r ops draw, path, K, rest, hit, hK, vals, fl, S, h, a, w, G, hs => by
  simp only [evalCode] at h
  obtain ⟨vals', fl', S', h1, h2, h3⟩ := region_ok (id := r) hF hmix h hs.inv hs.fr hs.tok (by rw [hs.sz]; exact hs.vl)
  have hw := h3 (fun e a' w' => e = .normal ∧ ∃ G', St w0 G0 S0 nt vals' fl' S' a' w' G') fun a' w' G' q1 q2 q3 q4 q5 q6 => ⟨rfl, G', q1, hs.ext.trans q2, q3, q4, by rw [h2]; exact hs.vl, by rw [q5]; exact hs.sz, by rw [q6]; exact hs.df⟩
  intro b cs hb hk
  obtain ⟨e, a', w', ⟨rfl, G', hs'⟩, harr⟩ := hw b rest cs
  obtain ⟨x, w2, fr, g1, g2, g3, g4⟩ := hK none vals' fl' S' res h1 a' w' G' hs' b cs hb hk
  exact ⟨x, w2, fr, g1, Steps.trans harr g2, g3, g4⟩
 | .seq x y, path, K, rest, hit, hK, vals, fl, S, h, a, w, G, hs => by
  simp only [evalCode] at h
  have h1 : itemsAt (false :: path).reverse c0 [] = some (x, .code y :: rest) := by rw [List.reverse_cons, itemsAt_append hit]; rfl
  have h2 : itemsAt (true :: path).reverse c0 [] = some (y, rest) := by rw [List.reverse_cons, itemsAt_append hit]; rfl
  refine (evalCode_ok hF hmix hfn hA hI0 hn x (false :: path) _ (.code y :: rest) h1 ?_ vals fl S h a w G hs).step fun b cs => step_seq
  intro e vals1 fl1 S1 res1 he a1 w1 G1 hs1
  cases e with
  | some id =>
   obtain ⟨items', g1, g2⟩ := hK (some id) vals1 fl1 S1 res1 he a1 w1 G1 hs1
   exact ⟨items', by simpa [exitTo] using g1, g2⟩
  | none =>
   simp only at he
   cases hcut : pol.cut k (true :: path) with
   | some live =>
    rw [hcut] at he
    have hgo : interp f (goAt pol k n0 (true :: path) vals1 fl1 S1) = some res1 := by unfold goAt; rw [hcut]; exact he
    exact leave_start (goto_ok hA hI0 hn h2 hgo hs1)
   | none =>
    rw [hcut] at he
    exact evalCode_ok hF hmix hfn hA hI0 hn y (true :: path) K rest h2 hK vals1 fl1 S1 he a1 w1 G1 hs1
 | .cond c x y, path, K, rest, hit, hK, vals, fl, S, h, a, w, G, hs => by
  simp only [evalCode] at h
  rw [interp_ob] at h
  obtain ⟨v, hv, h⟩ := Option.bind_eq_some_iff.1 h
  have h1 : itemsAt (false :: path).reverse c0 [] = some (x, rest) := by rw [List.reverse_cons, itemsAt_append hit]; rfl
  have h2 : itemsAt (true :: path).reverse c0 [] = some (y, rest) := by rw [List.reverse_cons, itemsAt_append hit]; rfl
  have hr := ev_ok hs.fr hv
  unfold cnd at h
  split at h
  ·rename_i t
   simp only [RV, RD] at hr
   cases t with
   | true =>
    simp only [if_true] at h
    exact (evalCode_ok hF hmix hfn hA hI0 hn x (false :: path) K rest h1 hK vals fl S h a w G hs).step fun b cs => by rw [step_cond hr]; rfl
   | false =>
    simp only [Bool.false_eq_true, if_false] at h
    exact (evalCode_ok hF hmix hfn hA hI0 hn y (true :: path) K rest h2 hK vals fl S h a w G hs).step fun b cs => by rw [step_cond hr]; rfl
  ·simp [interp] at h
 | .block id c, path, K, rest, hit, hK, vals, fl, S, h, a, w, G, hs => by
  simp only [evalCode] at h
  have h1 : itemsAt (false :: path).reverse c0 [] = some (c, .inBlock id :: rest) := by rw [List.reverse_cons, itemsAt_append hit]; rfl
  refine (evalCode_ok hF hmix hfn hA hI0 hn c (false :: path) _ (.inBlock id :: rest) h1 ?_ vals fl S h a w G hs).step fun b cs => step_block
  intro e vals1 fl1 S1 res1 he a1 w1 G1 hs1
  unfold blockK at he
  cases e with
  | none => exact (hK none vals1 fl1 S1 res1 he a1 w1 G1 hs1).step fun b cs => step_inBlock
  | some id' =>
   simp only at he
   by_cases e : id' = id
   ·subst e
    rw [if_pos rfl] at he
    exact ⟨rest, by simp [exitTo], hK none vals1 fl1 S1 res1 he a1 w1 G1 hs1⟩
   ·rw [if_neg e] at he
    obtain ⟨items', g1, g2⟩ := hK (some id') vals1 fl1 S1 res1 he a1 w1 G1 hs1
    exact ⟨items', by simp [exitTo, Ne.symm e, g1], g2⟩
 | .loop c, path, K, rest, hit, hK, vals, fl, S, h, a, w, G, hs => by
  simp only [evalCode] at h
  exact (goto_ok hA hI0 hn hit h hs).step fun b cs => step_loop
 | .exit id, path, K, rest, hit, hK, vals, fl, S, h, a, w, G, hs => by
  simp only [evalCode] at h
  obtain ⟨items', h1, h2⟩ := hK (some id) vals fl S res h a w G hs
  exact h2.step fun b cs => step_exit h1
 | .ret, path, K, rest, hit, hK, vals, fl, S, h, a, w, G, hs => by
  simp only [evalCode] at h
  exact leave_fin hfn hI0 hn hs h fun b cs => step_ret
 | .rangeFunc _ _ _ _, path, K, rest, hit, hK, vals, fl, S, h, a, w, G, hs => by simp [evalCode, interp] at h
 | .scope _, path, K, rest, hit, hK, vals, fl, S, h, a, w, G, hs => by simp [evalCode, interp] at h
 | .label _, path, K, rest, hit, hK, vals, fl, S, h, a, w, G, hs => by simp [evalCode, interp] at h
 | .goto _, path, K, rest, hit, hK, vals, fl, S, h, a, w, G, hs => by simp [evalCode, interp] at h
 | .refuse _, path, K, rest, hit, hK, vals, fl, S, h, a, w, G, hs => by simp [evalCode, interp] at h
end
end Go.Dn
namespace Go.Dn
set_option linter.unusedVariables false
set_option linter.unusedSimpArgs false
section
variable {P : Program} {pol : Pol}
variable {f : Task → Option Out} {k n0 nt : Nat} {w0 : World} {G0 : Sg} {S0 : List Ob}
theorem seqK_ok (hF : GoodF P f) (hmix : P.follows .mixedOrders = true) {fn : Func} (hfn : P.funcs[k]? = some fn) {c0 : Code} (hA : GoodAt P f k nt c0) (hI0 : Inv w0 G0 S0) (hn : S0.length = n0) {x y : Code} {path : List Bool} {K : Kont} {rest : List Item} (hit : itemsAt path.reverse c0 [] = some (.seq x y, rest)) (hK : KOk P f k nt w0 G0 S0 rest K) :
  KOk P f k nt w0 G0 S0 (.code y :: rest) (seqK P pol fn k n0 y path K) := by
 have h2 : itemsAt (true :: path).reverse c0 [] = some (y, rest) := by rw [List.reverse_cons, itemsAt_append hit]; rfl
 intro e vals1 fl1 S1 res1 he a1 w1 G1 hs1
 unfold seqK at he
 cases e with
 | some id =>
  obtain ⟨items', g1, g2⟩ := hK (some id) vals1 fl1 S1 res1 he a1 w1 G1 hs1
  exact ⟨items', by simpa [exitTo] using g1, g2⟩
 | none =>
  simp only at he
  cases hcut : pol.cut k (true :: path) with
  | some live =>
   rw [hcut] at he
   have hgo : interp f (goAt pol k n0 (true :: path) vals1 fl1 S1) = some res1 := by unfold goAt; rw [hcut]; exact he
   exact leave_start (goto_ok hA hI0 hn h2 hgo hs1)
  | none =>
   rw [hcut] at he
   exact evalCode_ok hF hmix hfn hA hI0 hn y (true :: path) K rest h2 hK vals1 fl1 S1 he a1 w1 G1 hs1
theorem blockK_ok {id : Nat} {K : Kont} {rest : List Item} (hK : KOk P f k nt w0 G0 S0 rest K) : KOk P f k nt w0 G0 S0 (.inBlock id :: rest) (blockK id K) := by
 intro e vals1 fl1 S1 res1 he a1 w1 G1 hs1
 unfold blockK at he
 cases e with
 | none => exact (hK none vals1 fl1 S1 res1 he a1 w1 G1 hs1).step fun b cs => step_inBlock
 | some id' =>
  simp only at he
  by_cases e : id' = id
  ·subst e
   rw [if_pos rfl] at he
   exact ⟨rest, by simp [exitTo], hK none vals1 fl1 S1 res1 he a1 w1 G1 hs1⟩
  ·rw [if_neg e] at he
   obtain ⟨items', g1, g2⟩ := hK (some id') vals1 fl1 S1 res1 he a1 w1 G1 hs1
   exact ⟨items', by simp [exitTo, Ne.symm e, g1], g2⟩
theorem loopK_ok {c0 : Code} (hA : GoodAt P f k nt c0) (hI0 : Inv w0 G0 S0) (hn : S0.length = n0) {c : Code} {path : List Bool} {K : Kont} {rest : List Item} (hit : itemsAt path.reverse c0 [] = some (.loop c, rest)) (hK : KOk P f k nt w0 G0 S0 rest K) :
  KOk P f k nt w0 G0 S0 (.inLoop c :: rest) (loopK pol k n0 path K) := by
 intro e vals1 fl1 S1 res1 he a1 w1 G1 hs1
 unfold loopK at he
 cases e with
 | none => exact (goto_ok hA hI0 hn hit he hs1).step fun b cs => step_inLoop
 | some id' =>
  obtain ⟨items', g1, g2⟩ := hK (some id') vals1 fl1 S1 res1 he a1 w1 G1 hs1
  exact ⟨items', by simp [exitTo, g1], g2⟩
theorem locate_ok (hF : GoodF P f) (hmix : P.follows .mixedOrders = true) {fn : Func} (hfn : P.funcs[k]? = some fn) {c0 : Code} (hA : GoodAt P f k nt c0) (hI0 : Inv w0 G0 S0) (hn : S0.length = n0) : ∀ (p : List Bool) (c : Code) (path : List Bool) (K : Kont) (rest : List Item) (x : Code) (path' : List Bool) (K' : Kont),
  itemsAt path.reverse c0 [] = some (c, rest) → KOk P f k nt w0 G0 S0 rest K → locate P pol fn k n0 p c path K = some (x, path', K') → path' = p.reverse ++ path ∧ ∃ rest', itemsAt path'.reverse c0 [] = some (x, rest') ∧ KOk P f k nt w0 G0 S0 rest' K' := by
 intro p
 induction p with
 | nil =>
  intro c path K rest x path' K' hit hK h
  simp only [locate, Option.some.injEq, Prod.mk.injEq] at h
  obtain ⟨rfl, rfl, rfl⟩ := h
  exact ⟨rfl, rest, hit, hK⟩
 | cons t p ih =>
  intro c path K rest x path' K' hit hK h
  have fin : ∀ {c' : Code} {rest1 : List Item} {K1 : Kont}, itemsAt [t] c rest = some (c', rest1) → KOk P f k nt w0 G0 S0 rest1 K1 → locate P pol fn k n0 p c' (t :: path) K1 = some (x, path', K') → path' = (t :: p).reverse ++ path ∧ ∃ rest', itemsAt path'.reverse c0 [] = some (x, rest') ∧ KOk P f k nt w0 G0 S0 rest' K' := by
   intro c' rest1 K1 h1 h2 h3
   obtain ⟨g1, g2⟩ := ih c' (t :: path) K1 rest1 x path' K' (by rw [List.reverse_cons, itemsAt_append hit]; exact h1) h2 h3
   exact ⟨by rw [g1]; simp, g2⟩
  cases t <;> cases c <;> simp only [locate] at h <;> first | (simp at h; done) | skip
  ·exact fin rfl (seqK_ok hF hmix hfn hA hI0 hn hit hK) h
  ·exact fin rfl hK h
  ·exact fin rfl (blockK_ok hK) h
  ·exact fin rfl (loopK_ok hA hI0 hn hit hK) h
  ·exact fin rfl hK h
  ·exact fin rfl hK h
end
end Go.Dn
namespace Go.Dn
set_option linter.unusedVariables false
set_option linter.unusedSimpArgs false
section
variable {P : Program} {pol : Pol}
variable {f : Task → Option Out} {k n0 nt : Nat} {w0 : World} {G0 : Sg} {S0 : List Ob}
theorem rootK_ok {fn : Func} (hfn : P.funcs[k]? = some fn) (hI0 : Inv w0 G0 S0) (hn : S0.length = n0) : KOk P f k nt w0 G0 S0 [] (rootK P fn n0) := by
 intro e vals fl S res he a w G hs
 unfold rootK at he
 cases e with
 | none => exact leave_fin hfn hI0 hn hs he fun b cs => step_end
 | some id => simp [interp] at he
def ExtOk (P : Program) (pol : Pol) : Prop := ∀ k g, pol.ext k = some g → ∀ args S o, g args S = some o → GoodCall P k args S o
theorem step_call (hF : GoodF P f) (hA : ∀ (k : Nat) (fn : Func) (c0 : Code), P.funcs[k]? = some fn → fn.body = some c0 → GoodAt P f k fn.ntmps c0) (hmix : P.follows .mixedOrders = true) (hext : ExtOk P pol) (hname : ∀ (k : Nat) (fn : Func), P.funcs[k]? = some fn → fn.name ≠ "runtime.NumGoroutine") {args : List V} {S : List Ob} {o : Out} (h : interp f (step P pol (.call k args S)) = some o) : GoodCall P k args S o := by
 simp only [step] at h
 split at h
 ·rename_i g hg
  rw [interp_ob] at h
  obtain ⟨o', ho', h⟩ := Option.bind_eq_some_iff.1 h
  simp only [interp, Option.some.injEq] at h; subst h
  exact hext k g hg args S _ ho'
 ·rw [interp_ob] at h
  obtain ⟨fn, hfn, h⟩ := Option.bind_eq_some_iff.1 h
  unfold stepF at h
  rw [interp_ob] at h
  obtain ⟨c, hc, h⟩ := Option.bind_eq_some_iff.1 h
  rw [interp_ift] at h
  split at h
  rotate_left
  ·simp at h
  rename_i hcond
  simp only [Bool.and_eq_true, decide_eq_true_eq] at hcond
  intro w G vs hI hvs hslots
  refine Answers.of_calls hfn (by rw [hc]; rfl) (hname k fn hfn) fun cs => ?_
  have hl := RVs.length hvs
  have hst : St w G S fn.ntmps (args ++ List.replicate (fn.ntmps - args.length) V.u) [] S { tmps := vs ++ Array.replicate (fn.ntmps - vs.size) undef, defers := [] } w G := by
   refine ⟨hI, Ext.refl _ _ _, fun t => ?_, fun q z hm => (by cases hm), (by simp; omega), (by simp; rw [Array.length_toList] at hl; omega), rfl⟩
   rcases Nat.lt_or_ge t args.length with ht | ht
   ·obtain ⟨v, hv, hr⟩ := RVs.get hvs (List.getElem?_eq_getElem ht)
    have e1 : (args ++ List.replicate (fn.ntmps - args.length) V.u).getD t .u = args[t] := by
     rw [List.getD_eq_getElem?_getD, List.getElem?_append_left ht, List.getElem?_eq_getElem ht]; rfl
    have e2 : (vs ++ Array.replicate (fn.ntmps - vs.size) undef).getD t undef = v := by
     rw [Array.getD_eq_getD_getElem?, Array.getElem?_append_left (by rw [Array.length_toList] at hl; omega)]
     rw [Array.getElem?_toList] at hv; rw [hv]; rfl
    rw [e1, e2]; exact hr
   ·have e1 : (args ++ List.replicate (fn.ntmps - args.length) V.u).getD t .u = .u := by
     rw [List.getD_eq_getElem?_getD, List.getElem?_append_right ht, List.getElem?_replicate]
     split <;> rfl
    rw [e1]; simp only [RV]
  have hleave := evalCode_ok hF hmix hfn (hA k fn c hfn hc) hI rfl c [] (rootK P fn S.length) [] rfl (rootK_ok hfn hI rfl) _ _ _ h _ _ _ hst
  have henter : Frame.enter P k vs .normal = ({ (default : Frame) with fn := k, kind := .normal } : Frame).at { tmps := vs ++ Array.replicate (fn.ntmps - vs.size) undef, defers := [] } [.code c] := by
   simp [Frame.enter, Frame.at, hfn, hc]
  obtain ⟨x, w', fr, h1, h2, h3, h4⟩ := hleave { (default : Frame) with fn := k, kind := .normal } cs rfl rfl
  rw [← henter] at h2
  exact ⟨.returned x, w', fr, ⟨x, rfl, h1⟩, h2, h3, h4⟩
theorem step_at (hF : GoodF P f) (hA : ∀ (k : Nat) (fn : Func) (c0 : Code), P.funcs[k]? = some fn → fn.body = some c0 → GoodAt P f k fn.ntmps c0) (hmix : P.follows .mixedOrders = true) {fn : Func} {c0 : Code} (hfn : P.funcs[k]? = some fn) (hc0 : fn.body = some c0) {n0 : Nat} {path : List Bool} {vals : List V} {fl : Fl} {S : List Ob} {o : Out}
  (h : interp f (step P pol (.at_ k n0 path vals fl S)) = some o) (hI0 : Inv w0 G0 S0) (hn : S0.length = n0) {a : Act} {w : World} {G : Sg} (hs : St w0 G0 S0 fn.ntmps vals fl S a w G) {x : Code} {rest : List Item} (hit : itemsAt path.reverse c0 [] = some (x, rest)) : Leave P k (startAt x rest) a w (Ans w0 G0 S0 o) := by
 simp only [step] at h
 rw [interp_ob] at h
 obtain ⟨fn', hfn', h⟩ := Option.bind_eq_some_iff.1 h
 rw [hfn] at hfn'; injection hfn' with hfn'; subst hfn'
 unfold stepA at h
 rw [interp_ob] at h
 obtain ⟨c, hc, h⟩ := Option.bind_eq_some_iff.1 h
 rw [hc0] at hc; injection hc with hc; subst hc
 rw [interp_ob] at h
 obtain ⟨⟨y, p, K⟩, hloc, h⟩ := Option.bind_eq_some_iff.1 h
 have hAt := hA k fn c0 hfn hc0
 obtain ⟨g1, rest', g2, g3⟩ := locate_ok hF hmix hfn hAt hI0 hn path.reverse c0 [] (rootK P fn n0) [] y p K rfl (rootK_ok hfn hI0 hn) hloc
 have hp : p = path := by rw [g1]; simp
 subst hp
 rw [hit] at g2; injection g2 with g2; injection g2 with g2 g4; subst g2; subst g4
 cases x with
 | loop b =>
  simp only at h
  have h1 : itemsAt (false :: p).reverse c0 [] = some (b, .inLoop b :: rest) := by rw [List.reverse_cons, itemsAt_append hit]; rfl
  exact evalCode_ok hF hmix hfn hAt hI0 hn b (false :: p) _ (.inLoop b :: rest) h1 (loopK_ok hAt hI0 hn hit g3) _ _ _ h _ _ _ hs
 | _ => exact evalCode_ok hF hmix hfn hAt hI0 hn _ p K rest hit g3 _ _ _ h _ _ _ hs
theorem runN_good (hmix : P.follows .mixedOrders = true) (hext : ExtOk P pol) (hname : ∀ (k : Nat) (fn : Func), P.funcs[k]? = some fn → fn.name ≠ "runtime.NumGoroutine") : ∀ n, GoodF P (runN P pol n) ∧ ∀ (k : Nat) (fn : Func) (c0 : Code), P.funcs[k]? = some fn → fn.body = some c0 → GoodAt P (runN P pol n) k fn.ntmps c0
 | 0 => ⟨fun k args S o h => by simp [runN] at h, fun k fn c0 _ _ n0 path vals fl S o h => by simp [runN] at h⟩
 | n + 1 => by
  obtain ⟨h1, h2⟩ := runN_good hmix hext hname n
  exact ⟨fun k args S o h => step_call h1 h2 hmix hext hname h, fun k fn c0 hfn hc0 n0 path vals fl S o h w0 G0 S0 hI0 hn a w G hs x rest hit => step_at h1 h2 hmix hfn hc0 h hI0 hn hs hit⟩
theorem run_good (hmix : P.follows .mixedOrders = true) (hext : ExtOk P pol) (hname : ∀ (k : Nat) (fn : Func), P.funcs[k]? = some fn → fn.name ≠ "runtime.NumGoroutine") {args : List V} {S : List Ob} {o : Out} (h : run P pol (.call k args S) = some o) : GoodCall P k args S o := by
 obtain ⟨n, hn⟩ := run_some.1 h
 exact (runN_good hmix hext hname n).1 k args S o hn
end
end Go.Dn
namespace Go.Dn
set_option linter.unusedVariables false
section
variable {P : Program} {pol : Pol}
theorem Answers.calls {k : Nat} {vs : Array Value} {w : World} {R : Value → World → Prop} {fn : Func} (hf : P.funcs[k]? = some fn) (hb : fn.body.isSome = true) (hn : fn.name ≠ "runtime.NumGoroutine") (h : Answers P k vs w R) :
  Calls P k vs w fun e w' => ∃ x, e = .returned x ∧ R x w' := by
 have hrun : (callFunc k vs).run P w = .ok (.enter k vs) w := by
  obtain ⟨c, hc⟩ := Option.isSome_iff_exists.1 hb
  simp [callFunc, hf, hn, hc]
 let o : Oper := { dst := some 0, op := .move (.tmp 0), type := 0, pos := "", after := #[], guard := none }
 let a : Act := { tmps := #[undef], defers := [] }
 have := h o a (fun a' w' => R (a'.tmps.getD 0 undef) w') (fun _ _ _ => False) fun x w' hr => by
  simpa [Act.put, o, a] using hr
 rw [hrun] at this
 simp only [Oper.upon] at this
 refine Calls.mono this fun e w' he => ?_
 cases e with
 | returned x => exact ⟨x, rfl, by simpa [Act.put, o, a] using he⟩
 | panicked c => exact he.elim
 | outgrown => obtain ⟨_, _, h⟩ := he; exact h.elim
def cellF (W : World) : Fz := fun b o => W.cell? ⟨b, o, none⟩
def startG (W : World) : Sg := { F := cellF W, own := fun _ => none }
def TabsIn (W : World) : Prop := ∀ b p, theTab b = some p → ∃ arr x y, W.heap[b]? = some (.cells arr x y) ∧ p arr
theorem startInv (W : World) (hT : TabsIn W) : Inv W (startG W) [] :=
 ⟨fun _ _ _ h => h, fun _ _ h => by simp [startG] at h, fun _ _ _ h => by simp [startG] at h, fun _ _ h => by simp [startG] at h, fun _ _ _ h => by simp [startG] at h, fun _ _ _ h => by simp [oget] at h, fun b arr h => ⟨hT b arr h, rfl⟩⟩
theorem run_row (hmix : P.follows .mixedOrders = true) (hext : ExtOk P pol) (hname : ∀ (k : Nat) (fn : Func), P.funcs[k]? = some fn → fn.name ≠ "runtime.NumGoroutine") {k : Nat} {fn : Func} (hf : P.funcs[k]? = some fn) (hb : fn.body.isSome = true)
  {args : List V} {vs : Array Value} {W : World} {x : D} {v : Value} (hT : TabsIn W) (h : run P pol (.call k args []) = some (.d x, [])) (hr : RVs (startG W) args vs.toList) (hx : ∀ F y, RD F x y → y = v) :
  Calls P k vs W fun e W' => e = .returned v ∧ RowKit.Below W.heap.size W W' := by
 have hg := run_good hmix hext hname h W (startG W) vs (startInv W hT) hr (fun b q => by simp [startG])
 refine Calls.mono (hg.calls hf hb (hname k fn hf)) ?_
 rintro e w' ⟨y, rfl, G', h1, h2, h3⟩
 refine ⟨?_, h3.os, h3.tape, h3.output, h3.size, fun b hb => (h3.keep b hb (.inl (by simp [startG]))).2.1⟩
 exact congrArg _ (hx _ _ (by simpa only [RV] using h1))
theorem RD_true {F : Fz} {y : Value} (h : RD F (.b true) y) : y = .bool true := by simpa only [RD] using h
def ints (k : IntKind) (zs : List Int) : List D := zs.map (.i k)
theorem ints_nil (k : IntKind) : ints k [] = [] := rfl
theorem ints_length (k : IntKind) (zs : List Int) : (ints k zs).length = zs.length := by simp [ints]
theorem sized_ints (k : IntKind) (zs : List Int) : sized (ints k zs) 1 := by
 intro x hx; simp only [ints, List.mem_map] at hx; obtain ⟨n, _, rfl⟩ := hx; rfl
theorem RElems_ints {F : Fz} {k : IntKind} {blk off : Nat} {zs : List Int} (h : ∀ i, i < zs.length → F blk (off + i) = some (.int k (zs.getD i 0))) : RElems F blk off (ints k zs) := by
 refine RElems.of_get (sized_ints k zs) fun i x hi => ?_
 have hl : i < zs.length := by rw [← ints_length k]; exact (List.getElem?_eq_some_iff.1 hi).1
 have hx : x = .i k (zs.getD i 0) := by
  simp [ints, List.getElem?_map, List.getElem?_eq_getElem hl] at hi
  rw [← hi, List.getD_eq_getElem?_getD, List.getElem?_eq_getElem hl]; rfl
 subst hx
 exact ⟨_, by rw [Nat.mul_one]; exact h i hl, by simp only [RD]⟩
theorem RD_slice {W : World} {k : IntKind} {a : Option Addr} {len cap : Nat} {zs : List Int} (hlen : len = zs.length) (hcap : len ≤ cap)
  (h : ∀ x, a = some x → ∀ i, i < zs.length → W.cell? (x.add i) = some (.int k (zs.getD i 0))) (hn : a = none → len = 0) : RD (cellF W) (.l false (ints k zs)) (.slice a len cap) := by
 simp only [RD]
 refine ⟨a, len, cap, 1, rfl, by rw [ints_length, hlen], hcap, by simp, sized_ints k zs, fun hne => ?_⟩
 have hz : zs ≠ [] := fun e => hne (by rw [e]; rfl)
 have hpos : 0 < zs.length := List.length_pos_iff.2 hz
 cases a with
 | none => have := hn rfl; omega
 | some x =>
  have h0 := h x rfl 0 hpos
  have hs : x.spot = none := by
   simp only [Addr.add, if_true, World.cell?] at h0
   split at h0
   ·split at h0
    ·simp at h0
    ·rename_i hh; simpa using hh
   ·simp at h0
  have hx : x = ⟨x.block, x.off, none⟩ := by rw [← hs]
  refine ⟨x.block, x.off, by rw [← hx], RElems_ints fun i hi => ?_⟩
  have := h x rfl i hi
  unfold cellF
  rw [← this]
  by_cases e : i = 0
  ·subst e; simp only [Addr.add, if_true, Nat.add_zero]; rw [← hx]
  ·simp only [Addr.add, if_neg e]
end
end Go.Dn
namespace Go.Dn
section
variable {P : Program} {pol : Pol}
def growF (G : Sg) (w w' : World) : Fz := fun b o => if b < w.heap.size then G.F b o else w'.cell? ⟨b, o, none⟩
theorem growF_grow {w w' : World} {G : Sg} {S : List Ob} (hI : Inv w G S) (h : RowKit.Below w.heap.size w w') : Grow w G w' ⟨growF G w w', G.own⟩ := {
 os := h.os
 tape := h.tape
 output := h.output
 size := h.size
 heap := h.block
 own := rfl
 F := fun b o v hv => by
  have := cell?_lt (hI.fz b o v hv)
  simp only [growF, if_pos this]; exact hv
 old := fun b o hb => by simp only [growF, if_pos hb] }
theorem GoodCall.of_below {k : Nat} {args : List V} {S : List Ob} {v : V}
  (h : ∀ w G vs, Inv w G S → RVs G args vs.toList → Answers P k vs w fun x w' => RowKit.Below w.heap.size w w' ∧ RV ⟨growF G w w', G.own⟩ v x) : GoodCall P k args S (v, S) := by
 intro w G vs hI hr _
 intro o a next Q hn
 refine h w G vs hI hr o a next Q fun x w' ⟨hb, hx⟩ => hn x w' ?_
 have hg := growF_grow hI hb
 refine ⟨_, hx, hI.grow hg fun b o' v' hb' hv' => ?_, Ext.of_grow hg⟩
 simp only [growF, if_neg (Nat.not_lt.2 hb')] at hv'; exact hv'
theorem Answers.mono {k : Nat} {vs : Array Value} {w : World} {R R' : Value → World → Prop} (h : Answers P k vs w R) (hR : ∀ x w', R x w' → R' x w') : Answers P k vs w R' :=
 fun o a next Q hn => h o a next Q fun x w' hx => hn x w' (hR x w' hx)
end
end Go.Dn
namespace Go.Dn
theorem RD_open {W : World} {k : IntKind} {a : Option Addr} {len cap : Nat} (h : (a = none ∧ len = 0 ∧ cap = 0) ∨ ∃ (x : Addr) (zs : List Int), a = some x ∧ len ≤ cap ∧ zs.length = cap ∧ (∀ i, i < zs.length → W.cell? (x.add i) = some (.int k (zs.getD i 0))) ∧ ∀ n ∈ zs, (Lit.int k n).wf = true) :
  ∃ zs : List Int, RD (cellF W) (.l false (ints k zs)) (.slice a len cap) ∧ ∀ n ∈ zs, (Lit.int k n).wf = true := by
 rcases h with ⟨rfl, rfl, rfl⟩ | ⟨x, zs, rfl, hl, hz, hc, hw⟩
 ·exact ⟨[], RD_slice rfl (Nat.le_refl _) (fun x e => by cases e) (fun _ => rfl), by simp⟩
 ·refine ⟨zs.take len, RD_slice (by simp; omega) hl (fun y e i hi => ?_) (fun e => by cases e), fun n hn => hw n (List.mem_of_mem_take hn)⟩
  injection e with e; subst e
  have hi' : i < len := by simp at hi; omega
  rw [hc i (by omega)]
  simp [List.getD_eq_getElem?_getD, List.getElem?_take_of_lt hi']
end Go.Dn
