/- The evaluator again, in the form in which it is read: what is behind an operation stands inside, values bear their kinds; it answers less often, and never otherwise. -/
import Derived.Test.YtbjllhjbhdjfjaaGreatDoorP1
import Derived.Test.YtbjllhjbhdjfjaaGreatDoorP3
namespace Go.Dn
set_option linter.unusedVariables false
def Tr.le (a b : Tr) : Prop := ∀ (f : Task → Option Out) (o : Out), interp f a = some o → interp f b = some o
theorem Tr.le_refl (a : Tr) : a.le a := fun _ _ h => h
theorem Tr.le_trans {a b c : Tr} (h : a.le b) (k : b.le c) : a.le c := fun f o e => k f o (h f o e)
theorem fail_le (a : Tr) : Tr.fail.le a := fun f o h => by simp [interp] at h
theorem le_ob {α : Type} {x : Option α} {K K' : α → Tr} (h : ∀ a, x = some a → (K a).le (K' a)) : (ob x K).le (ob x K') := by
 cases x with
 | none => exact Tr.le_refl _
 | some a => exact h a rfl
theorem le_ift {c : Bool} {x y : Tr} (h : c = true → x.le y) : (ift c x).le y := by
 cases c with
 | false => exact fail_le _
 | true => exact h rfl
theorem le_call {t : Task} {K K' : Out → Tr} (h : ∀ o, (K o).le (K' o)) : (Tr.call t K).le (.call t K') := by
 intro f o e
 simp only [interp] at e ⊢
 cases hf : f t with
 | none => rw [hf] at e; cases e
 | some r => rw [hf] at e; exact h r f o e
theorem le_bind {a : Tr} {K K' : Out → Tr} (h : ∀ o, (K o).le (K' o)) : (a.bind K).le (a.bind K') := by
 intro f o e
 rw [interp_bind] at e ⊢
 cases hf : interp f a with
 | none => rw [hf] at e; cases e
 | some r => rw [hf] at e; exact h r f o e
def getI {α : Type} (x : List α) (n : Int) : Option α := if 0 ≤ n then x[n.toNat]? else none
def brB (c : Bool) (x y : Tr) : Tr :=
 match c with
 | true => x
 | false => y
def asI (k : IntKind) (d : D) (K : Int → Tr) : Tr :=
 match d with
 | .i j n => ift (j == k) (K n)
 | _ => .fail
def asB (d : D) (K : Bool → Tr) : Tr :=
 match d with
 | .b x => K x
 | _ => .fail
def asS (d : D) (K : List UInt8 → Tr) : Tr :=
 match d with
 | .s x => K x
 | _ => .fail
def asL (d : D) (K : Bool → List D → Tr) : Tr :=
 match d with
 | .l f xs => K f xs
 | _ => .fail
def litX {α : Type} [Inhabited α] (n : Nat) (cs : List α) : List α := (List.range n).map fun i => cs.getD i default
theorem litX_eq {α : Type} [Inhabited α] {n : Nat} {cs : List α} (h : cs.length = n) : litX n cs = cs := by
 subst h
 apply List.ext_getElem?
 intro i
 unfold litX
 by_cases hi : i < cs.length
 ·simp [hi]
 ·rw [List.getElem?_eq_none (by simp; omega), List.getElem?_eq_none (by omega)]
def asG (n : Nat) (d : D) (K : List D → Tr) : Tr :=
 match d with
 | .g cs => ift (cs.length == n) (K cs)
 | _ => .fail
def asD (v : V) (K : D → Tr) : Tr :=
 match v with
 | .d x => K x
 | _ => .fail
def unCons (l : List Ob) (K : Ob → List Ob → Tr) : Tr :=
 match l with
 | b :: bs => K b bs
 | [] => .fail
def unNil (l : List Ob) (K : Tr) : Tr :=
 match l with
 | [] => K
 | _ => .fail
def unCells (b : Ob) (K : List V → Fl → Tr) : Tr :=
 match b with
 | .cells cs fl => K cs fl
 | _ => .fail
def unMap (b : Ob) (K : List (D × D) → Tr) : Tr :=
 match b with
 | .map es => K es
 | _ => .fail
def unIter (b : Ob) (K : List UInt8 → Nat → Tr) : Tr :=
 match b with
 | .iter s n => K s n
 | _ => .fail
def obK (a b : Ob) (K : Ob → Tr) : Tr :=
 match a with
 | .cells cs fl => unCells b fun cs' fl' => ift (cs'.length == cs.length) (ift (fl' == fl) (K (.cells cs' fl)))
 | .map _ => unMap b fun es => K (.map es)
 | .iter _ _ => unIter b fun s n => K (.iter s n)
 | .dead => .fail
def obsK : List Ob → List Ob → (List Ob → Tr) → Tr
 | [], l, K => unNil l (K [])
 | a :: as, l, K => unCons l fun b bs => obK a b fun b' => obsK as bs fun bs' => K (b' :: bs')
theorem obK_le {a b : Ob} {K : Ob → Tr} {X : Tr} (h : (K b).le X) : (obK a b K).le X := by
 unfold obK
 split
 ·cases b <;> simp only [unCells] <;> first | exact fail_le _ | skip
  refine le_ift fun _ => le_ift fun e => ?_
  simp only [beq_iff_eq] at e
  subst e; exact h
 ·cases b <;> simp only [unMap] <;> first | exact fail_le _ | exact h
 ·cases b <;> simp only [unIter] <;> first | exact fail_le _ | exact h
 ·exact fail_le _
theorem obsK_le : ∀ {A B : List Ob} {K : List Ob → Tr} {X : Tr}, (B.length = A.length → (K B).le X) → (obsK A B K).le X
 | [], B, K, X, h => by
  cases B with
  | nil => simp only [obsK, unNil]; exact h rfl
  | cons b bs => simp only [obsK, unNil]; exact fail_le _
 | a :: A, B, K, X, h => by
  cases B with
  | nil => simp only [obsK, unCons]; exact fail_le _
  | cons b bs =>
   simp only [obsK, unCons]
   exact obK_le (obsK_le fun e => h (by simp [e]))
def asM (o : Out) (K : List V → Nat → Tr) : Tr :=
 match o with
 | (.m 0 0 len, [.cells cs []]) => ift (refsLts 0 cs) (K cs len)
 | _ => .fail
section
variable (P : Program) (pol : Pol)
def tyD (t : TypeId) (d : D) (K : D → Tr) : Tr :=
 match P.underlying t with
 | some (.int k) => asI k d fun n => K (.i k n)
 | some .bool => asB d fun b => K (.b b)
 | some .string => asS d fun s => K (.s s)
 | some (.slice _) => asL d fun f xs => K (.l f xs)
 | some (.struct _) => ob (tSize P t) fun n => asG n d fun cs => K (.g (litX n cs))
 | _ => K d
def tyV (t : TypeId) (v : V) (K : V → Tr) : Tr :=
 match P.underlying t with
 | some (.int _) => asD v fun d => tyD P t d fun d => K (.d d)
 | some .bool => asD v fun d => tyD P t d fun d => K (.d d)
 | some .string => asD v fun d => tyD P t d fun d => K (.d d)
 | some (.struct _) => asD v fun d => tyD P t d fun d => K (.d d)
 | _ => K v
def tyR (t : TypeId) (v : V) (K : V → Tr) : Tr :=
 match P.underlying t with
 | some (.slice _) => asD v fun d => tyD P t d fun d => K (.d d)
 | _ => tyV P t v K
def tyRs : List TypeId → List V → (List V → Tr) → Tr
 | [], [], K => K []
 | t :: ts, v :: vs, K => tyR P t v fun v => tyRs ts vs fun vs => K (v :: vs)
 | _, _, _ => .fail
def unT (v : V) (K : List V → Tr) : Tr :=
 match v with
 | .t vs => K vs
 | _ => .fail
def tyRet (ts : List TypeId) (v : V) (K : V → Tr) : Tr :=
 match ts with
 | [t] => tyR P t v K
 | ts => unT v fun vs => ift (vs.length == ts.length) (tyRs P ts (litX ts.length vs) fun vs => K (.t vs))
theorem asI_le {k : IntKind} {d : D} {K : Int → Tr} {X : Tr} (h : ∀ n, d = .i k n → (K n).le X) : (asI k d K).le X := by
 cases d <;> simp only [asI] <;> first | exact fail_le _ | skip
 refine le_ift fun e => h _ ?_
 simp only [beq_iff_eq] at e; rw [e]
theorem asB_le {d : D} {K : Bool → Tr} {X : Tr} (h : ∀ n, d = .b n → (K n).le X) : (asB d K).le X := by
 cases d <;> simp only [asB] <;> first | exact fail_le _ | exact h _ rfl
theorem asS_le {d : D} {K : List UInt8 → Tr} {X : Tr} (h : ∀ n, d = .s n → (K n).le X) : (asS d K).le X := by
 cases d <;> simp only [asS] <;> first | exact fail_le _ | exact h _ rfl
theorem asL_le {d : D} {K : Bool → List D → Tr} {X : Tr} (h : ∀ f n, d = .l f n → (K f n).le X) : (asL d K).le X := by
 cases d <;> simp only [asL] <;> first | exact fail_le _ | exact h _ _ rfl
theorem asG_le {n : Nat} {d : D} {K : List D → Tr} {X : Tr} (h : ∀ cs, d = .g cs → cs.length = n → (K cs).le X) : (asG n d K).le X := by
 cases d <;> simp only [asG] <;> first | exact fail_le _ | skip
 refine le_ift fun e => ?_
 simp only [beq_iff_eq] at e
 exact h _ rfl e
theorem asD_le {v : V} {K : D → Tr} {X : Tr} (h : ∀ d, v = .d d → (K d).le X) : (asD v K).le X := by
 cases v <;> simp only [asD] <;> first | exact fail_le _ | exact h _ rfl
theorem ob_le {α : Type} {x : Option α} {K : α → Tr} {X : Tr} (h : ∀ a, x = some a → (K a).le X) : (ob x K).le X := by
 cases x with
 | none => exact fail_le _
 | some a => exact h a rfl
theorem tyD_le {t : TypeId} {d : D} {K : D → Tr} : (tyD P t d K).le (K d) := by
 unfold tyD
 split
 ·exact asI_le fun n e => by rw [e]; exact Tr.le_refl _
 ·exact asB_le fun n e => by rw [e]; exact Tr.le_refl _
 ·exact asS_le fun n e => by rw [e]; exact Tr.le_refl _
 ·exact asL_le fun f n e => by rw [e]; exact Tr.le_refl _
 ·exact ob_le fun n _ => asG_le fun cs e hl => by rw [e, litX_eq hl]; exact Tr.le_refl _
 ·exact Tr.le_refl _
theorem tyV_le {t : TypeId} {v : V} {K : V → Tr} : (tyV P t v K).le (K v) := by
 unfold tyV
 split
 ·exact asD_le fun d e => by rw [e]; exact tyD_le P
 ·exact asD_le fun d e => by rw [e]; exact tyD_le P
 ·exact asD_le fun d e => by rw [e]; exact tyD_le P
 ·exact asD_le fun d e => by rw [e]; exact tyD_le P
 ·exact Tr.le_refl _
theorem tyR_le {t : TypeId} {v : V} {K : V → Tr} : (tyR P t v K).le (K v) := by
 unfold tyR
 split
 ·exact asD_le fun d e => by rw [e]; exact tyD_le P
 ·exact tyV_le P
theorem tyRs_le : ∀ {ts : List TypeId} {vs : List V} {K : List V → Tr}, (tyRs P ts vs K).le (K vs)
 | [], [], K => Tr.le_refl _
 | t :: ts, v :: vs, K => by
  simp only [tyRs]
  exact Tr.le_trans (tyR_le P) tyRs_le
 | [], _ :: _, K => by simp only [tyRs]; exact fail_le _
 | _ :: _, [], K => by simp only [tyRs]; exact fail_le _
theorem tyRet_le {ts : List TypeId} {v : V} {K : V → Tr} : (tyRet P ts v K).le (K v) := by
 unfold tyRet
 split
 ·exact tyR_le P
 ·cases v <;> simp only [unT] <;> first | exact fail_le _ | skip
  refine le_ift fun e => ?_
  simp only [beq_iff_eq] at e
  rw [litX_eq e]; exact tyRs_le P
def indexK (a i : V) (K : V → Tr) : Tr :=
 match a, i with
 | .d (.s x), .d (.i _ n) => ob (getI x n) fun c => K (.d (.i .u8 c.toNat))
 | _, _ => .fail
theorem indexK_le {a i : V} {K : V → Tr} : (indexK a i K).le (ob (o_index a i) K) := by
 unfold indexK
 split
 ·unfold getI
  refine ob_le fun c hc => ?_
  split at hc
  ·rename_i h0
   simp only [o_index, if_pos h0, hc, Option.map_some, ob]; exact Tr.le_refl _
  ·cases hc
 ·exact fail_le _
def indexAddrK (sz : Nat) (a i : V) (K : V → Tr) : Tr :=
 match a, i with
 | .d (.l _ xs), .d (.i _ n) => ob (getI xs n) fun x => ift (x.width == sz) (K (.e xs n.toNat 0))
 | .m id off len, .d (.i _ n) => ift (sz == 1) (ift (decide (0 ≤ n ∧ n < (len : Int))) (K (.p id (off + n.toNat))))
 | _, _ => .fail
theorem indexAddrK_le {sz : Nat} {a i : V} {K : V → Tr} : (indexAddrK sz a i K).le (ob (o_indexAddr sz a i) K) := by
 unfold indexAddrK
 split
 ·unfold getI
  refine ob_le fun c hc => ?_
  split at hc
  ·rename_i h0
   refine le_ift fun hw => ?_
   simp only [beq_iff_eq] at hw
   simp only [o_indexAddr, if_pos h0, hc, if_pos hw, ob]; exact Tr.le_refl _
  ·cases hc
 ·refine le_ift fun h1 => le_ift fun h2 => ?_
  simp only [beq_iff_eq] at h1
  simp only [decide_eq_true_eq] at h2
  simp only [o_indexAddr, if_pos (show sz = 1 ∧ _ ∧ _ from ⟨h1, h2⟩), ob]; exact Tr.le_refl _
 ·exact fail_le _
def indexAddrAK (len sz : Nat) (a i : V) (K : V → Tr) : Tr :=
 match a, i with
 | .p id off, .d (.i _ n) => ift (decide (0 ≤ n ∧ n < (len : Int))) (K (.p id (off + n.toNat * sz)))
 | .e xs j off, .d (.i _ n) => ift (decide (0 ≤ n ∧ n < (len : Int))) (K (.e xs j (off + n.toNat * sz)))
 | _, _ => .fail
theorem indexAddrAK_le {len sz : Nat} {a i : V} {K : V → Tr} : (indexAddrAK len sz a i K).le (ob (o_indexAddrA len sz a i) K) := by
 unfold indexAddrAK
 split
 ·refine le_ift fun h2 => ?_
  simp only [decide_eq_true_eq] at h2
  simp only [o_indexAddrA, if_pos h2, ob]; exact Tr.le_refl _
 ·refine le_ift fun h2 => ?_
  simp only [decide_eq_true_eq] at h2
  simp only [o_indexAddrA, if_pos h2, ob]; exact Tr.le_refl _
 ·exact fail_le _
def loadK (t : TypeId) (agg : Bool) (sz : Nat) (S : List Ob) (a : V) (K : V → Tr) : Tr :=
 match a with
 | .e xs i off => ob xs[i]? fun x => match agg with
  | true => ift (decide (off + sz ≤ x.width)) (K (.d (.g (litX sz ((x.cells.drop off).take sz)))))
  | false => ob x.cells[off]? fun d => tyD P t d fun d => K (.d d)
 | .p id off => match oget S id with
  | some (.cells cs _) => match agg with
   | true => ift (decide (off + sz ≤ cs.length)) (ob (unDs ((cs.drop off).take sz)) fun ds => K (.d (.g ds)))
   | false => ob cs[off]? fun v => tyV P t v K
  | _ => .fail
 | _ => .fail
theorem cells_len (x : D) : x.cells.length = x.width := by cases x <;> rfl
theorem loadK_le {t : TypeId} {agg : Bool} {sz : Nat} {S : List Ob} {a : V} {K : V → Tr} : (loadK P t agg sz S a K).le (ob (o_load agg sz S a) K) := by
 unfold loadK
 split
 ·refine ob_le fun x hx => ?_
  split
  ·refine le_ift fun h => ?_
   simp only [decide_eq_true_eq] at h
   simp only [o_load, hx, if_true, if_pos h, ob]
   rw [litX_eq (by simp [cells_len]; omega)]; exact Tr.le_refl _
  ·refine ob_le fun d hd => ?_
   simp only [o_load, hx, hd, Option.map_some, ob, Bool.false_eq_true, if_false]
   exact tyD_le P
 ·split
  ·rename_i hob
   split
   ·refine le_ift fun h => ?_
    simp only [decide_eq_true_eq] at h
    refine ob_le fun ds hds => ?_
    simp only [o_load, hob, if_true, if_pos h, hds, Option.map_some, ob]; exact Tr.le_refl _
   ·refine ob_le fun v hv => ?_
    simp only [o_load, hob, hv, ob, Bool.false_eq_true, if_false]
    exact tyV_le P
  ·exact fail_le _
 ·exact fail_le _
def optNK (v : Option V) (dflt most : Nat) (K : Nat → Tr) : Tr :=
 match v with
 | none => K dflt
 | some (.d (.i _ n)) => ift (decide (0 ≤ n ∧ n ≤ (most : Int))) (K n.toNat)
 | _ => .fail
theorem optNK_le {v : Option V} {dflt most : Nat} {K : Nat → Tr} {X : Tr} (h : ∀ n, optN v dflt most = some n → (K n).le X) : (optNK v dflt most K).le X := by
 unfold optNK
 split
 ·exact h _ rfl
 ·refine le_ift fun h1 => h _ ?_
  simp only [decide_eq_true_eq] at h1
  simp only [optN, if_pos h1]
 ·exact fail_le _
def sliceK (sz : Nat) (a : V) (lo hi : Option V) (K : V → Tr) : Tr :=
 match a with
 | .d (.s x) => optNK hi x.length x.length fun h => optNK lo 0 h fun l => K (.d (.s ((x.drop l).take (h - l))))
 | .d (.l _ xs) => optNK hi xs.length xs.length fun h => optNK lo 0 h fun l => ift (headOk sz xs) (K (.d (.l false ((xs.drop l).take (h - l)))))
 | .m id off len => optNK hi len len fun h => optNK lo 0 h fun l => ift (sz == 1) (K (.m id (off + l) (h - l)))
 | _ => .fail
theorem sliceK_le {sz : Nat} {a : V} {lo hi : Option V} {K : V → Tr} : (sliceK sz a lo hi K).le (ob (o_slice sz a lo hi) K) := by
 unfold sliceK
 split
 ·refine optNK_le fun h hh => optNK_le fun l hl => ?_
  simp only [o_slice, hh, hl, ob]; exact Tr.le_refl _
 ·refine optNK_le fun h hh => optNK_le fun l hl => le_ift fun e => ?_
  simp only [o_slice, hh, hl, if_pos e, ob]; exact Tr.le_refl _
 ·refine optNK_le fun h hh => optNK_le fun l hl => le_ift fun e => ?_
  simp only [beq_iff_eq] at e
  simp only [o_slice, hh, hl, if_pos e, ob]; exact Tr.le_refl _
 ·exact fail_le _
def sliceAK (len sz : Nat) (a : V) (lo hi : Option V) (K : V → Tr) : Tr :=
 match a with
 | .p id off => optNK hi len len fun h => optNK lo 0 h fun l => ift (sz == 1) (K (.m id (off + l) (h - l)))
 | _ => .fail
theorem sliceAK_le {len sz : Nat} {a : V} {lo hi : Option V} {K : V → Tr} : (sliceAK len sz a lo hi K).le (ob (o_sliceA len sz a lo hi) K) := by
 unfold sliceAK
 split
 ·refine optNK_le fun h hh => optNK_le fun l hl => le_ift fun e => ?_
  simp only [beq_iff_eq] at e
  simp only [o_sliceA, hh, hl, if_pos e, ob]; exact Tr.le_refl _
 ·exact fail_le _
def fieldK (t : TypeId) (fo sz : Nat) (agg : Bool) (a : V) (K : V → Tr) : Tr :=
 match a with
 | .d (.g cs) => match agg with
  | true => ift (decide (fo + sz ≤ cs.length)) (K (.d (.g ((cs.drop fo).take sz))))
  | false => ob cs[fo]? fun d => tyD P t d fun d => K (.d d)
 | _ => .fail
theorem fieldK_le {t : TypeId} {fo sz : Nat} {agg : Bool} {a : V} {K : V → Tr} : (fieldK P t fo sz agg a K).le (ob (o_field fo sz agg a) K) := by
 unfold fieldK
 split
 ·split
  ·refine le_ift fun h => ?_
   simp only [decide_eq_true_eq] at h
   simp only [o_field, if_true, if_pos h, ob]; exact Tr.le_refl _
  ·refine ob_le fun d hd => ?_
   simp only [o_field, hd, Option.map_some, ob, Bool.false_eq_true, if_false]
   exact tyD_le P
 ·exact fail_le _
def binK' (bt : List Nat) (op : BinOp) (a b : V) (K : V → Tr) : Tr :=
 match op, a, b with
 | .quo, .d (.i k x), .d (.i j y) => ift (k == j) (ift (decide (y ≠ 0)) (K (.d (.i k (k.wrap (x.tdiv y))))))
 | .rem, .d (.i k x), .d (.i j y) => ift (k == j) (ift (decide (y ≠ 0)) (K (.d (.i k (x.tmod y)))))
 | .shl, .d (.i k x), .d (.i _ y) => ift (decide (0 ≤ y)) (K (.d (.i k (k.wrap (x * 2 ^ (min y.toNat k.bits))))))
 | .shr, .d (.i k x), .d (.i _ y) => ift (decide (0 ≤ y)) (K (.d (.i k (x.fdiv (2 ^ (min y.toNat k.bits))))))
 | .add, .d (.s x), .d (.s y) => ift (decide (x.length + y.length < 4611686018427387904)) (K (.d (.s (x ++ y))))
 | op, a, b => ob (o_bin bt op a b) K
theorem binK'_le {bt : List Nat} {op : BinOp} {a b : V} {K : V → Tr} : (binK' bt op a b K).le (ob (o_bin bt op a b) K) := by
 unfold binK'
 split
 ·refine le_ift fun h1 => le_ift fun h2 => ?_
  simp only [beq_iff_eq] at h1
  simp only [decide_eq_true_eq] at h2
  simp only [o_bin, if_pos h1, binI, if_neg h2, ob]; exact Tr.le_refl _
 ·refine le_ift fun h1 => le_ift fun h2 => ?_
  simp only [beq_iff_eq] at h1
  simp only [decide_eq_true_eq] at h2
  simp only [o_bin, if_pos h1, binI, if_neg h2, ob]; exact Tr.le_refl _
 ·refine le_ift fun h1 => ?_
  simp only [decide_eq_true_eq] at h1
  simp only [o_bin, shI, if_neg (Int.not_lt.2 h1), ob]; exact Tr.le_refl _
 ·refine le_ift fun h1 => ?_
  simp only [decide_eq_true_eq] at h1
  simp only [o_bin, shI, if_neg (Int.not_lt.2 h1), ob]; exact Tr.le_refl _
 ·refine le_ift fun h1 => ?_
  simp only [decide_eq_true_eq] at h1
  simp only [o_bin, binS, if_pos h1, ob]; exact Tr.le_refl _
 ·exact Tr.le_refl _
def eqG (ks : List Nat) (a b : V) : Option Bool :=
 match a, b with
 | .d (.g xs), .d (.g ys) => eqDs ks xs ys
 | _, _ => none
def binK (bt : List Nat) (op : BinOp) (a b : V) (K : V → Tr) : Tr :=
 match bt, op with
 | 9 :: ks, .eql => ob (eqG ks a b) fun r => K (.d (.b r))
 | 9 :: ks, .neq => ob (eqG ks a b) fun r => K (.d (.b !r))
 | bt, op => binK' bt op a b K
theorem eqG_bin {ks : List Nat} {a b : V} {r : Bool} (h : eqG ks a b = some r) : o_bin (9 :: ks) .eql a b = some (.d (.b r)) ∧ o_bin (9 :: ks) .neq a b = some (.d (.b !r)) := by
 unfold eqG at h
 split at h
 ·unfold o_bin
  constructor <;> simp only [h]
 ·cases h
theorem binK_le {bt : List Nat} {op : BinOp} {a b : V} {K : V → Tr} : (binK bt op a b K).le (ob (o_bin bt op a b) K) := by
 unfold binK
 split
 ·cases h : eqG _ a b with
  | none => exact fail_le _
  | some r => rw [(eqG_bin h).1]; exact Tr.le_refl _
 ·cases h : eqG _ a b with
  | none => exact fail_le _
  | some r => rw [(eqG_bin h).2]; exact Tr.le_refl _
 ·exact binK'_le
end
end Go.Dn
namespace Go.Dn
set_option linter.unusedVariables false
set_option linter.unusedSimpArgs false
section
variable (P : Program) (pol : Pol)
def pickK (c a b : V) (K : V → Tr) : Tr :=
 match c with
 | .d (.b x) => brB x (K a) (K b)
 | _ => .fail
theorem pickK_le {c a b : V} {K : V → Tr} : (pickK c a b K).le (ob (o_pick c a b) K) := by
 unfold pickK
 split
 ·rename_i x
  cases x <;> exact Tr.le_refl _
 ·exact fail_le _
def pvalK (vals : List V) (S : List Ob) (o : Oper) (K : V → Tr) : Tr :=
 match o.op with
 | .pick c a b => ob (ev vals c) fun c => ob (ev vals a) fun a => ob (ev vals b) fun b => pickK c a b K
 | .buildSlice t len parts => ob (tElem P t) fun e => ob (tSize P e) fun sz =>
   ift (decide (parts.size = len ∧ len * sz ≤ 16777216 ∧ (tZero P e).isSome = true)) (ob (o_elems sz 0 (parts.toList.map fun p => (p.1, ev vals p.2))) fun xs => K (.d (.l true xs)))
 | .load t a => ob (tAgg P t) fun g => ob (tSize P t) fun sz => ob (ev vals a) fun a => loadK P t g sz S a K
 | .binOp op t x y _ => ob (binT P t) fun bt => ob (ev vals x) fun x => ob (ev vals y) fun y => binK bt op x y K
 | .convert s d x => match P.underlying s, P.underlying d with
  | some (.slice e), some .string => match P.underlying e with
   | some (.int .u8) => ob (ev vals x) fun x => ob (view S 1 x) fun xs => ob (toBytes xs) fun b => K (.d (.s b))
   | _ => .fail
  | some s', some d' => ob (ev vals x) fun x => ob (o_conv s' d' x) K
  | _, _ => .fail
 | .slice t x lo hi mx => match mx with
  | some _ => .fail
  | none => match P.underlying t with
   | some .string => ob (ev vals x) fun x => ob (unS x) fun s => ob (bev vals lo) fun lo => ob (bev vals hi) fun hi => sliceK 1 (.d (.s s)) lo hi K
   | some (.slice e) => ob (ev vals x) fun x => ob (unL x) fun v => ob (tSize P e) fun sz => ob (bev vals lo) fun lo => ob (bev vals hi) fun hi => sliceK sz v lo hi K
   | some (.array n e) => ob (tSize P e) fun sz => ob (ev vals x) fun x => ob (bev vals lo) fun lo => ob (bev vals hi) fun hi => sliceAK n sz x lo hi K
   | _ => .fail
 | .field t x f => match P.underlying t with
  | some (.struct fs) => match fs[f]? with
   | some g => ob (tSize P g.type) fun sz => ob (tAgg P g.type) fun ag => ob (ev vals x) fun x => fieldK P g.type g.offset sz ag x K
   | none => .fail
  | _ => .fail
 | .indexAddr t x i => match P.underlying t with
  | some (.slice e) => ob (tSize P e) fun sz => ob (ev vals x) fun x => ob (ev vals i) fun i => indexAddrK sz x i K
  | some (.array n e) => ob (tSize P e) fun sz => ob (ev vals x) fun x => ob (ev vals i) fun i => indexAddrAK n sz x i K
  | _ => .fail
 | .index t x i => match P.underlying t with
  | some .string => ob (ev vals x) fun x => ob (ev vals i) fun i => indexK x i K
  | _ => .fail
 | .lookup t m k ok => match P.underlying t with
  | some (.map kt e) => match tZeroV P e with
   | some (.d z) => ob (ev vals k) fun k => ob (unD k) fun k => ift (keyFits P kt k) (ob (ev vals m) fun m => ob (mapOf S m) fun es => ob (mfind k es) fun r => match ok with
     | true => tyD P e (r.getD z) fun x => K (.t [.d x, .d (.b r.isSome)])
     | false => tyD P e (r.getD z) fun x => K (.d x))
   | _ => .fail
  | _ => .fail
 | _ => ob (pval P vals S o) K
theorem pvalK_le {vals : List V} {S : List Ob} {o : Oper} {K : V → Tr} : (pvalK P vals S o K).le (ob (pval P vals S o) K) := by
 unfold pvalK
 split
 ·rename_i c a b hop
  refine ob_le fun c hc => ob_le fun a ha => ob_le fun b hb => ?_
  have : pval P vals S o = o_pick c a b := by simp [pval, hop, hc, ha, hb]
  rw [this]; exact pickK_le
 ·rename_i t len parts hop
  refine ob_le fun e he => ob_le fun sz hsz => le_ift fun h => ob_le fun xs hxs => ?_
  simp only [decide_eq_true_eq] at h
  have : pval P vals S o = some (.d (.l true xs)) := by
   simp only [pval, hop, he, hsz, hxs, Option.bind_eq_bind, Option.bind_some, if_pos h]; rfl
  rw [this]; exact Tr.le_refl _
 ·rename_i t a hop
  refine ob_le fun g hg => ob_le fun sz hsz => ob_le fun a ha => ?_
  have : pval P vals S o = o_load g sz S a := by simp [pval, hop, hg, hsz, ha]
  rw [this]; exact loadK_le P
 ·rename_i op t x y ty hop
  refine ob_le fun bt hbt => ob_le fun x hx => ob_le fun y hy => ?_
  have : pval P vals S o = o_bin bt op x y := by simp [pval, hop, hbt, hx, hy]
  rw [this]; exact binK_le
 ·rename_i s d x hop
  split
  ·rename_i e hs hd
   split
   ·rename_i he
    refine ob_le fun x hx => ob_le fun xs hxs => ob_le fun b hb => ?_
    have : pval P vals S o = some (.d (.s b)) := by simp [pval, hop, hs, hd, he, hx, hxs, hb]
    rw [this]; exact Tr.le_refl _
   ·exact fail_le _
  ·rename_i s' d' hne hs hd
   refine ob_le fun x hx => ?_
   have : pval P vals S o = o_conv s' d' x := by
    simp [pval, hop, hs, hd, hx]
   rw [this]; exact Tr.le_refl _
  ·exact fail_le _
 ·rename_i t x lo hi mx hop
  split
  ·exact fail_le _
  ·split
   ·rename_i hu
    refine ob_le fun x hx => ob_le fun s hs => ob_le fun lo hlo => ob_le fun hi hhi => ?_
    have : pval P vals S o = o_slice 1 (.d (.s s)) lo hi := by simp [pval, hop, hu, hx, hs, hlo, hhi]
    rw [this]; exact sliceK_le
   ·rename_i e hu
    refine ob_le fun x hx => ob_le fun v hv => ob_le fun sz hsz => ob_le fun lo hlo => ob_le fun hi hhi => ?_
    have : pval P vals S o = o_slice sz v lo hi := by simp [pval, hop, hu, hx, hv, hsz, hlo, hhi]
    rw [this]; exact sliceK_le
   ·rename_i n e hu
    refine ob_le fun sz hsz => ob_le fun x hx => ob_le fun lo hlo => ob_le fun hi hhi => ?_
    have : pval P vals S o = o_sliceA n sz x lo hi := by simp [pval, hop, hu, hx, hsz, hlo, hhi]
    rw [this]; exact sliceAK_le
   ·exact fail_le _
 ·rename_i t x f hop
  split
  ·rename_i fs hu
   split
   ·rename_i g hg
    refine ob_le fun sz hsz => ob_le fun ag hag => ob_le fun x hx => ?_
    have : pval P vals S o = o_field g.offset sz ag x := by simp [pval, hop, hu, hg, hsz, hag, hx]
    rw [this]; exact fieldK_le P
   ·exact fail_le _
  ·exact fail_le _
 ·rename_i t x i hop
  split
  ·rename_i e hu
   refine ob_le fun sz hsz => ob_le fun x hx => ob_le fun i hi => ?_
   have : pval P vals S o = o_indexAddr sz x i := by simp [pval, hop, hu, hsz, hx, hi]
   rw [this]; exact indexAddrK_le
  ·rename_i n e hu
   refine ob_le fun sz hsz => ob_le fun x hx => ob_le fun i hi => ?_
   have : pval P vals S o = o_indexAddrA n sz x i := by simp [pval, hop, hu, hsz, hx, hi]
   rw [this]; exact indexAddrAK_le
  ·exact fail_le _
 ·rename_i t x i hop
  split
  ·rename_i hu
   refine ob_le fun x hx => ob_le fun i hi => ?_
   have : pval P vals S o = o_index x i := by simp [pval, hop, hu, hx, hi]
   rw [this]; exact indexK_le
  ·exact fail_le _
 ·rename_i t m k okb hop
  split
  ·rename_i kt e hu
   split
   ·rename_i z hz
    refine ob_le fun k hk => ob_le fun kd hkd => le_ift fun hf => ob_le fun m hm => ob_le fun es hes => ob_le fun r hr => ?_
    cases okb with
    | true =>
     have : pval P vals S o = some (.t [.d (r.getD z), .d (.b r.isSome)]) := by simp [pval, hop, hu, hz, hk, hkd, hf, hm, hes, hr]
     rw [this]; exact tyD_le P
    | false =>
     have : pval P vals S o = some (.d (r.getD z)) := by simp [pval, hop, hu, hz, hk, hkd, hf, hm, hes, hr]
     rw [this]; exact tyD_le P
   ·exact fail_le _
  ·exact fail_le _
 ·exact Tr.le_refl _
def appendK (S : List Ob) (sz by_ : Nat) (fresh : Bool) (base y : V) (K : V → Tr) : Tr :=
 asD base fun d => asL d fun full xs => ob (o_tail S sz y) fun zs => ift (!fresh || full) (ift (headOk sz xs) (ift (headOk sz zs) (ift (full || oneAll zs) (ift (decide (by_ ≤ 1024)) (ift (decide (xs.length + zs.length ≤ 4294967296)) (K (.d (.l (full && zs.isEmpty) (xs ++ zs)))))))))
theorem appendK_le {S : List Ob} {sz by_ : Nat} {fresh : Bool} {base y : V} {K : V → Tr} : (appendK S sz by_ fresh base y K).le (ob (o_append S sz by_ fresh base y) K) := by
 unfold appendK
 cases base with
 | d x => cases x with
  | l full xs =>
   show (ob (o_tail S sz y) fun zs => ift (!fresh || full) (ift (headOk sz xs) (ift (headOk sz zs) (ift (full || oneAll zs) (ift (decide (by_ ≤ 1024)) (ift (decide (xs.length + zs.length ≤ 4294967296)) (K (.d (.l (full && zs.isEmpty) (xs ++ zs)))))))))).le _
   refine ob_le fun zs hzs => le_ift fun h1 => le_ift fun h2 => le_ift fun h3 => le_ift fun h4 => le_ift fun h5 => le_ift fun h6 => ?_
   simp only [decide_eq_true_eq] at h5 h6
   have : o_append S sz by_ fresh (.d (.l full xs)) y = some (.d (.l (full && zs.isEmpty) (xs ++ zs))) := by
    simp only [o_append, hzs]
    rw [if_pos]
    refine ⟨fun e => by simpa [e] using h1, h2, h3, fun e => by simpa [e] using h4, h5, h6⟩
   rw [this]; exact Tr.le_refl _
  | _ => exact fail_le _
 | _ => exact fail_le _
def storeK (S : List Ob) (agg : Bool) (sz : Nat) (fl : Fl) (tk : Option Nat) (a v : V) (K : List Ob → Tr) : Tr :=
 match a with
 | .p id off => match oget S id with
  | some (.cells cs fl0) => match agg with
   | true => match v with
    | .d (.g ds) => ift (decide (ds.length = sz ∧ off + sz ≤ cs.length) && flgOk none (ds.map .d) fl && (ds.map V.d).all V.one) (K (oset S id (.cells (layV cs off (ds.map .d)) (fl0.filter (fun x => !(off ≤ x.1 && x.1 < off + sz)) ++ fl.map (fun x => (off + x.1, x.2))))))
    | _ => .fail
   | false => ift (v.one && sz == 1 && decide (off < cs.length) && refsLt (id + 1) v) (K (oset S id (.cells (cs.set off v) (addTok tk off (drop1 fl0 off)))))
  | _ => .fail
 | _ => .fail
theorem storeK_le {S : List Ob} {agg : Bool} {sz : Nat} {fl : Fl} {tk : Option Nat} {a v : V} {K : List Ob → Tr} : (storeK S agg sz fl tk a v K).le (ob (o_store S agg sz fl tk a v) K) := by
 unfold storeK
 split
 ·split
  ·rename_i hob
   split
   ·split
    ·refine le_ift fun h => ?_
     simp only [Bool.and_eq_true, decide_eq_true_eq] at h
     simp only [o_store, hob, if_true]
     rw [if_pos ⟨h.1.1.1, h.1.1.2, h.1.2, h.2⟩]; exact Tr.le_refl _
    ·exact fail_le _
   ·refine le_ift fun h => ?_
    simp only [Bool.and_eq_true, decide_eq_true_eq, beq_iff_eq] at h
    simp only [o_store, hob, Bool.false_eq_true, if_false]
    rw [if_pos ⟨h.1.1.1, h.1.1.2, h.1.2, h.2⟩]; exact Tr.le_refl _
  ·exact fail_le _
 ·exact fail_le _
def mapUpdateK (S : List Ob) (m k x : V) (K : List Ob → Tr) : Tr :=
 match m, k, x with
 | .mp id, .d k, .d x => match oget S id with
  | some (.map es) => ift (mfind k es).isSome (K (oset S id (.map (mput k x es))))
  | _ => .fail
 | _, _, _ => .fail
theorem mapUpdateK_le {S : List Ob} {m k x : V} {K : List Ob → Tr} : (mapUpdateK S m k x K).le (ob (o_mapUpdate S m k x) K) := by
 unfold mapUpdateK
 split
 ·split
  ·rename_i hob
   refine le_ift fun h => ?_
   simp only [o_mapUpdate, hob, if_pos h, ob]; exact Tr.le_refl _
  ·exact fail_le _
 ·exact fail_le _
def nextK (S : List Ob) (a : V) (K : V → List Ob → Tr) : Tr :=
 match a with
 | .it id => match oget S id with
  | some (.iter s pos) => brB (decide (pos < s.length))
    (K (.t [.d (.b true), .d (.i .i64 pos), .d (.i .i32 (Utf8.decode ⟨s.toArray⟩ pos).1)]) (oset S id (.iter s (pos + (Utf8.decode ⟨s.toArray⟩ pos).2))))
    (K (.t [.d (.b false)]) S)
  | _ => .fail
 | _ => .fail
theorem nextK_le {S : List Ob} {a : V} {K : V → List Ob → Tr} : (nextK S a K).le (ob (o_next S a) fun w => K w.1 w.2) := by
 unfold nextK
 split
 ·split
  ·rename_i s pos hob
   simp only [o_next, hob]
   by_cases h : pos < s.length
   ·rw [if_pos h, decide_eq_true h]; exact Tr.le_refl _
   ·rw [if_neg h, decide_eq_false h]; exact Tr.le_refl _
  ·exact fail_le _
 ·exact fail_le _
def newK (S : List Ob) (t : Nat) (fl : Fl) (cs : List V) (K : V → List Ob → Tr) : Tr :=
 ift (flgOk (some t) cs fl && cs.all V.one && refsLts S.length cs) (K (.p S.length 0) (.cells cs fl :: S))
theorem newK_le {S : List Ob} {t : Nat} {fl : Fl} {cs : List V} {K : V → List Ob → Tr} : (newK S t fl cs K).le (ob (o_new S t fl cs) fun w => K w.1 w.2) := by
 unfold newK
 refine le_ift fun h => ?_
 simp only [Bool.and_eq_true] at h
 simp only [o_new, if_pos (show _ ∧ _ ∧ _ from ⟨h.1.1, h.1.2, h.2⟩), ob]; exact Tr.le_refl _
def boxK (S : List Ob) (t : Nat) (fl : Fl) (sz : Nat) (v : V) (K : V → List Ob → Tr) : Tr :=
 match v with
 | .d (.g ds) => ift (ds.length == sz) (newK S t fl (ds.map .d) K)
 | v => ift (sz == 1) (newK S t fl [v] K)
theorem boxK_le {S : List Ob} {t : Nat} {fl : Fl} {sz : Nat} {v : V} {K : V → List Ob → Tr} : (boxK S t fl sz v K).le (ob (o_box S t fl sz v) fun w => K w.1 w.2) := by
 unfold boxK
 split
 ·refine le_ift fun h => ?_
  simp only [beq_iff_eq] at h
  simp only [o_box, if_pos h]; exact newK_le
 ·rename_i hne
  refine le_ift fun h => ?_
  simp only [beq_iff_eq] at h
  have : o_box S t fl sz v = if sz = 1 then o_new S t fl [v] else none := by
   unfold o_box; split
   ·rename_i ds; exact absurd rfl (hne ds)
   ·rfl
  rw [this, if_pos h]; exact newK_le
def makeLK (z : D) (n c : V) (K : V → Tr) : Tr :=
 match n, c with
 | .d (.i _ n), .d (.i _ c) => ift (decide (0 ≤ n)) (ift (decide (n ≤ c)) (ift (decide (c ≤ 4294967296)) (ift (V.d z).one (K (.d (.l false (List.replicate n.toNat z)))))))
 | _, _ => .fail
theorem makeLK_le {z : D} {n c : V} {K : V → Tr} : (makeLK z n c K).le (ob (o_makeL z n c) K) := by
 unfold makeLK
 split
 ·refine le_ift fun h1 => le_ift fun h2 => le_ift fun h3 => le_ift fun h4 => ?_
  simp only [decide_eq_true_eq] at h1 h2 h3
  simp only [o_makeL, if_pos (show _ ∧ _ ∧ _ ∧ _ from ⟨h1, h2, h3, h4⟩), ob]; exact Tr.le_refl _
 ·exact fail_le _
def makeMK (S : List Ob) (z n c : V) (K : V → List Ob → Tr) : Tr :=
 match n, c with
 | .d (.i _ n), .d (.i _ c) => ift (decide (0 ≤ n)) (ift (decide (n = c)) (ift (decide (c ≤ 4294967296)) (ift (z.one && refsLt S.length z) (K (.m S.length 0 n.toNat) (.cells (List.replicate n.toNat z) [] :: S)))))
 | _, _ => .fail
theorem makeMK_le {S : List Ob} {z n c : V} {K : V → List Ob → Tr} : (makeMK S z n c K).le (ob (o_makeM S z n c) fun w => K w.1 w.2) := by
 unfold makeMK
 split
 ·refine le_ift fun h1 => le_ift fun h2 => le_ift fun h3 => le_ift fun h4 => ?_
  simp only [decide_eq_true_eq, Bool.and_eq_true] at h1 h2 h3 h4
  simp only [o_makeM, if_pos (show _ ∧ _ ∧ _ ∧ _ ∧ _ from ⟨h1, h2, h3, h4.1, h4.2⟩), ob]; exact Tr.le_refl _
 ·exact fail_le _
def appendMK (S : List Ob) (by_ : Nat) (base y : V) (K : V → List Ob → Tr) : Tr :=
 match base with
 | .d (.l true []) => ob (o_tail S 1 y) fun zs => ift (headOk 1 zs) (ift ((zs.map V.d).all V.one) (ift (decide (by_ ≤ 1024)) (ift (decide (zs.length ≤ 4294967296)) (K (.m S.length 0 zs.length) (.cells (zs.map .d) [] :: S)))))
 | _ => .fail
theorem appendMK_le {S : List Ob} {by_ : Nat} {base y : V} {K : V → List Ob → Tr} : (appendMK S by_ base y K).le (ob (o_appendM S by_ base y) fun w => K w.1 w.2) := by
 unfold appendMK
 split
 ·refine ob_le fun zs hzs => le_ift fun h1 => le_ift fun h2 => le_ift fun h3 => le_ift fun h4 => ?_
  simp only [decide_eq_true_eq] at h3 h4
  simp only [o_appendM, hzs, if_pos (show _ ∧ _ ∧ _ ∧ _ from ⟨h1, h2, h3, h4⟩), ob]; exact Tr.le_refl _
 ·exact fail_le _
def asP (o : Out) (K : List V → Tr) : Tr :=
 match o with
 | (.p 0 0, [.cells cs []]) => ift (refsLts 0 cs) (K cs)
 | _ => .fail
def isPtr (t : Option TypeId) : Bool :=
 match t with
 | some t => match P.underlying t with
  | some (.pointer _) => true
  | _ => false
 | none => false
def callK (g : Nat) (args : List V) (S : List Ob) (K : V → List Ob → Tr) : Tr :=
 ob P.funcs[g]? fun fn => match pol.fresh g, bnds args with
 | true, 0 => match isPtr P fn.resultTypes[0]? with
  | true => .call (.call g args []) fun o => asP o fun cs => K (.p S.length 0) (.cells cs [] :: S)
  | false => .call (.call g args []) fun o => asM o fun cs len => K (.m S.length 0 len) (.cells cs [] :: S)
 | false, 0 => .call (.call g args []) fun o => ift o.2.isEmpty (tyRet P fn.resultTypes.toList o.1 fun v => ift (bnd v == 0) (K v S))
 | _, n + 1 => ift (decide (n + 1 ≤ S.length)) (.call (.call g args (lowS (n + 1) S)) fun o => obsK (lowS (n + 1) S) o.2 fun S' => tyRet P fn.resultTypes.toList o.1 fun v => ift (decide (bnd v ≤ n + 1)) (K v (topS (n + 1) S ++ S')))
theorem callK_le {g : Nat} {args : List V} {S : List Ob} {K : V → List Ob → Tr} : (callK P pol g args S K).le (ift (decide (bnds args ≤ S.length)) (.call (.call g args (lowS (bnds args) S)) fun o => ob (joinC (bnds args) S o) fun w => K w.1 w.2)) := by
 unfold callK
 refine ob_le fun fn _ => ?_
 have hl : lowS 0 S = [] := by simp [lowS]
 split
 ·rename_i _ hb
  rw [hb, hl]
  simp only [Nat.zero_le, decide_true, ift]
  split
  ·refine le_call fun o => ?_
   unfold asP
   split
   ·rename_i cs
    refine le_ift fun h => ?_
    have : joinC 0 S (.p 0 0, [.cells cs []]) = some (.p S.length 0, .cells cs [] :: S) := by
     simp [joinC, h, topS]
    rw [this]; exact Tr.le_refl _
   ·exact fail_le _
  refine le_call fun o => ?_
  unfold asM
  split
  ·rename_i len cs
   refine le_ift fun h => ?_
   have : joinC 0 S (.m 0 0 len, [.cells cs []]) = some (.m S.length 0 len, .cells cs [] :: S) := by
    simp [joinC, h, topS]
   rw [this]; exact Tr.le_refl _
  ·exact fail_le _
 ·rename_i _ hb
  rw [hb, hl]
  simp only [Nat.zero_le, decide_true, ift]
  refine le_call fun o => le_ift fun he => Tr.le_trans (tyRet_le P) (le_ift fun h0 => ?_)
  have he' : o.2 = [] := by simpa using he
  have h0' : bnd o.1 = 0 := by simpa using h0
  have : joinC 0 S o = some (o.1, S) := by
   unfold joinC
   rw [he']
   simp [h0', topS]
  rw [this]; exact Tr.le_refl _
 ·rename_i _ n hb
  rw [hb]
  refine le_ift fun hn => ?_
  rw [hn]
  simp only [ift]
  simp only [decide_eq_true_eq] at hn
  refine le_call fun o => obsK_le fun hlen => Tr.le_trans (tyRet_le P) (le_ift fun h0 => ?_)
  simp only [decide_eq_true_eq] at h0
  have hlow : (lowS (n + 1) S).length = n + 1 := by simp [lowS]; omega
  have : joinC (n + 1) S o = some (o.1, topS (n + 1) S ++ o.2) := by
   unfold joinC
   rw [if_pos (by rw [hlen, hlow]), if_pos h0]
  rw [this]; exact Tr.le_refl _
def eval1K (k r i : Nat) (ops : List Oper) (vals : List V) (fl : Fl) (S : List Ob) (o : Oper) (K : V → List Ob → Tr) : Tr :=
 match o.op with
 | .store t a x => ob (tAgg P t) fun g => ob (tSize P t) fun sz => ob (ev vals a) fun va => ob (ev vals x) fun vx =>
   storeK S g sz (pol.flg k r i) (match x, o.guard with | .tmp y, none => tok fl y | _, _ => none) va vx fun S' => K .u S'
 | .box t x => ob (tSize P t) fun sz => ob (ev vals x) fun v => boxK S t (pol.flg k r i) sz v K
 | .next it true => ob (ev vals it) fun v => nextK S v K
 | .mapUpdate t m kk x => match P.underlying t with
  | some (.map kt _) => ob (ev vals m) fun vm => ob (ev vals kk) fun vk => ob (ev vals x) fun vx => ob (unD vk) fun kd => ift (keyFits P kt kd) (mapUpdateK S vm vk vx fun S' => K .u S')
  | _ => .fail
 | .makeSlice t n c => ob (tElem P t) fun e => ob (tZero P e) fun z =>
   ift (decide (((P.info? e).map (·.bytes)).getD 5000 ≤ 1024) && decide (tSize P e = some 1)) (match pol.app k r i, z with
   | 0, [.d z] => ob (ev vals n) fun vn => ob (ev vals c) fun vc => makeLK z vn vc fun v => K v S
   | 1, [z] => ob (ev vals n) fun vn => ob (ev vals c) fun vc => makeMK S z vn vc K
   | _, _ => .fail)
 | .convert s d x => match P.underlying s, P.underlying d with
  | some .string, some (.slice e) => match P.underlying e with
   | some (.int .u8) => ob (ev vals x) fun v => asD v fun d => asS d fun b => ift (decide (b.length ≤ 4294967296) && decide (((P.info? e).map (·.bytes)).getD 5000 ≤ 1024)) (match pol.app k r i with
     | 0 => K (.d (.l false (ofBytes b))) S
     | 1 => K (.m S.length 0 b.length) (.cells ((ofBytes b).map .d) [] :: S)
     | _ => .fail)
   | _ => .fail
  | _, _ => .fail
 | .call c => match c.callee with
  | .builtin .append => match c.args.toList, c.argTypes[0]? with
   | [x, y], some t => ob (tElem P t) fun e => ob (tSize P e) fun sz => ob (ev vals x) fun bx => ob (ev vals y) fun vy =>
    ift (tailT P c && decide ((tZero P e).map (·.length) = some sz) && o.dst.isSome && decide (sz < 1000000)) (match pol.app k r i with
    | 0 => appendK S sz (((P.info? e).map (·.bytes)).getD 5000) true bx vy fun v => K v S
    | 2 => ob (baseSlot ops x) fun q => ift (decide (tok fl q = some sz)) (appendK S sz (((P.info? e).map (·.bytes)).getD 5000) false bx vy fun v => K v S)
    | 3 => ob (baseCell ops x) fun q => ob (untok S (vals.getD q .u)) fun w => ift (decide (w.1 = tkOf (pol.flg k r i) sz) && tkT (pol.flg k r i) e) (appendK S sz (((P.info? e).map (·.bytes)).getD 5000) false bx vy fun v => K v w.2)
    | 1 => ift (sz == 1) (appendMK S (((P.info? e).map (·.bytes)).getD 5000) bx vy K)
    | _ => .fail)
   | _, _ => .fail
  | .value f => ob (c.args.toList.mapM (ev vals)) fun args => ob (ev vals f) fun vf => match vf with
   | .f g caps => callK P pol g (args ++ caps) S K
   | _ => .fail
  | _ => .fail
 | _ => (eval1 P pol k r i ops vals fl S o).bind fun w => K w.1 w.2
theorem ob_bind {α : Type} {x : Option α} {K : α → Tr} {J : Out → Tr} : (ob x K).bind J = ob x fun a => (K a).bind J := by cases x <;> rfl
theorem ift_bind {c : Bool} {x : Tr} {J : Out → Tr} : (ift c x).bind J = ift c (x.bind J) := by cases c <;> rfl
theorem eval1K_le {k r i : Nat} {ops : List Oper} {vals : List V} {fl : Fl} {S : List Ob} {o : Oper} {K : V → List Ob → Tr} : (eval1K P pol k r i ops vals fl S o K).le ((eval1 P pol k r i ops vals fl S o).bind fun w => K w.1 w.2) := by
 unfold eval1K
 split
 ·rename_i t a x hop
  simp only [eval1, hop, ob_bind]
  refine le_ob fun g _ => le_ob fun sz _ => le_ob fun va _ => le_ob fun vx _ => ?_
  exact storeK_le
 ·rename_i t x hop
  simp only [eval1, hop, ob_bind]
  refine le_ob fun sz _ => le_ob fun v _ => ?_
  exact boxK_le
 ·rename_i it hop
  simp only [eval1, hop, ob_bind]
  refine le_ob fun v _ => ?_
  exact nextK_le
 ·rename_i t m kk x hop
  split
  ·rename_i kt e hu
   simp only [eval1, hop, hu, ob_bind, ift_bind]
   refine le_ob fun vm _ => le_ob fun vk _ => le_ob fun vx _ => le_ob fun kd _ => le_ift fun hf => ?_
   rw [hf]; simp only [ift, ob_bind, Tr.bind]
   exact mapUpdateK_le
  ·exact fail_le _
 ·rename_i t n c hop
  simp only [eval1, hop, ob_bind, ift_bind]
  refine le_ob fun e _ => le_ob fun z _ => le_ift fun hc => ?_
  rw [hc]; simp only [ift]
  split
  ·have hm : pol.app k r i = 0 := by assumption
   simp only [hm, ob_bind, Tr.bind]
   exact le_ob fun vn _ => le_ob fun vc _ => makeLK_le
  ·have hm : pol.app k r i = 1 := by assumption
   simp only [hm, ob_bind, Tr.bind]
   exact le_ob fun vn _ => le_ob fun vc _ => makeMK_le
  ·exact fail_le _
 ·rename_i s d x hop
  split
  ·rename_i e hs hd
   split
   ·rename_i he
    simp only [eval1, hop, hs, hd, he, ob_bind]
    refine le_ob fun v _ => asD_le fun d hdv => asS_le fun b hb => ?_
    subst hdv; subst hb
    simp only [ift_bind]
    refine le_ift fun hc => ?_
    rw [hc]; simp only [ift]
    split
    ·rename_i hm; simp only [hm, Tr.bind]; exact Tr.le_refl _
    ·rename_i hm; simp only [hm, Tr.bind]; exact Tr.le_refl _
    ·exact fail_le _
   ·exact fail_le _
  ·exact fail_le _
 ·rename_i c hop
  split
  ·rename_i hc
   split
   ·rename_i x y t hargs hty
    simp only [eval1, hop, hc, hargs, hty, ob_bind, ift_bind]
    refine le_ob fun e _ => le_ob fun sz _ => le_ob fun bx _ => le_ob fun vy _ => le_ift fun hi => ?_
    rw [hi]; simp only [ift]
    split
    ·rename_i hm
     simp only [hm, ob_bind, Tr.bind]; exact appendK_le
    ·rename_i hm
     simp only [hm, ob_bind, ift_bind]
     refine le_ob fun q _ => le_ift fun hq => ?_
     rw [hq]; simp only [ift, ob_bind, Tr.bind]; exact appendK_le
    ·rename_i hm
     simp only [hm, ob_bind, ift_bind]
     refine le_ob fun q _ => le_ob fun w _ => le_ift fun hq => ?_
     rw [hq]; simp only [ift, ob_bind, Tr.bind]; exact appendK_le
    ·rename_i hm
     simp only [hm, ob_bind, ift_bind]
     refine le_ift fun hq => ?_
     rw [hq]; simp only [ift, ob_bind, Tr.bind]; exact appendMK_le
    ·exact fail_le _
   ·exact fail_le _
  ·rename_i f hc
   simp only [eval1, hop, hc, ob_bind]
   refine le_ob fun args _ => le_ob fun vf _ => ?_
   split
   ·simp only [ift_bind, Tr.bind, ob_bind]
    exact callK_le P pol
   ·exact fail_le _
  ·exact fail_le _
 ·exact Tr.le_refl _
end
end Go.Dn
namespace Go.Dn
set_option linter.unusedVariables false
set_option linter.unusedSimpArgs false
section
variable (P : Program) (pol : Pol)
def gdK (g : V) (want : Bool) (x y : Tr) : Tr :=
 match g with
 | .d (.b c) => brB (c == want) x y
 | .t [] => y
 | _ => .fail
def pvalGK (ops : List Oper) (vals : List V) (S : List Ob) (o : Oper) (K : V → Tr) : Tr :=
 match o.guard with
 | none => pvalK P vals S o K
 | some (j, want) => match (ops[j]?).bind (·.dst) with
  | some g => gdK (vals.getD g .u) want (pvalK P vals S o K) (K (.t []))
  | none => .fail
theorem pvalGK_le {ops : List Oper} {vals : List V} {S : List Ob} {o : Oper} {K : V → Tr} : (pvalGK P ops vals S o K).le (ob (pvalG P ops vals S o) K) := by
 unfold pvalGK pvalG
 split
 ·rename_i hg; simp only [hg]; exact pvalK_le P
 ·rename_i j want hg
  simp only [hg]
  split
  ·rename_i g hd
   simp only [hd]
   unfold gdK
   split
   ·rename_i c hc
    simp only [hc, gd]
    by_cases e : c = want
    ·rw [if_pos e]; subst e; simp only [beq_self_eq_true, brB]; exact pvalK_le P
    ·rw [if_neg e]
     have : (c == want) = false := by simpa using e
     rw [this]; exact Tr.le_refl _
   ·rename_i hc
    simp only [hc, gd]; exact Tr.le_refl _
   ·exact fail_le _
  ·exact fail_le _
def eval1GK (k r i : Nat) (ops : List Oper) (vals : List V) (fl : Fl) (S : List Ob) (o : Oper) (K : V → List Ob → Tr) : Tr :=
 match o.guard with
 | none => eval1K P pol k r i ops vals fl S o K
 | some (j, want) => match (ops[j]?).bind (·.dst) with
  | some g => gdK (vals.getD g .u) want (eval1K P pol k r i ops vals fl S o K) (K (.t []) S)
  | none => .fail
theorem eval1GK_le {k r i : Nat} {ops : List Oper} {vals : List V} {fl : Fl} {S : List Ob} {o : Oper} {K : V → List Ob → Tr} : (eval1GK P pol k r i ops vals fl S o K).le ((eval1G P pol k r i ops vals fl S o).bind fun w => K w.1 w.2) := by
 unfold eval1GK eval1G
 split
 ·rename_i hg; simp only [hg]; exact eval1K_le P pol
 ·rename_i j want hg
  simp only [hg]
  split
  ·rename_i g hd
   simp only [hd]
   unfold gdK
   split
   ·rename_i c hc
    simp only [hc, gdE]
    by_cases e : c = want
    ·rw [if_pos e]; subst e; simp only [beq_self_eq_true, brB]; exact eval1K_le P pol
    ·rw [if_neg e]
     have : (c == want) = false := by simpa using e
     rw [this]; exact Tr.le_refl _
   ·rename_i hc
    simp only [hc, gdE]; exact Tr.le_refl _
   ·exact fail_le _
  ·exact fail_le _
def usedG (ops : List Oper) (i : Nat) : Bool := ops.any fun o => match o.guard with
 | some (j, _) => j == i
 | none => false
def splitB (v : V) (K : V → Tr) : Tr :=
 match v with
 | .d (.b x) => brB x (K (.d (.b true))) (K (.d (.b false)))
 | v => K v
theorem splitB_le {v : V} {K : V → Tr} : (splitB v K).le (K v) := by
 unfold splitB
 split
 ·rename_i x; cases x <;> exact Tr.le_refl _
 ·exact Tr.le_refl _
def maySplit (ops : List Oper) (i : Nat) (v : V) (K : V → Tr) : Tr :=
 match usedG ops i with
 | true => splitB v K
 | false => K v
theorem maySplit_le {ops : List Oper} {i : Nat} {v : V} {K : V → Tr} : (maySplit ops i v K).le (K v) := by
 unfold maySplit
 split
 ·exact splitB_le
 ·exact Tr.le_refl _
def evalOpsK (k r : Nat) (ops : List Oper) : List Oper → Nat → Nat → List V → Fl → List Ob → (List V → Fl → List Ob → Tr) → Tr
 | [], _, _, vals, fl, S, K => K vals fl S
 | o :: os, i, id, vals, fl, S, K =>
  match isAlloc o with
  | true => evalOpsK k r ops os (i + 1) (id + 1) (putV o.dst (allocV o id) vals) (flAfter P pol k r i ops fl o) S K
  | false => match guardOk pol k r i o with
   | false => .fail
   | true => match effects P o with
    | false => pvalGK P ops vals S o fun v => maySplit ops i v fun v => evalOpsK k r ops os (i + 1) id (putV o.dst v vals) (flAfter P pol k r i ops fl o) S K
    | true => eval1GK P pol k r i ops vals fl S o fun v S' => maySplit ops i v fun v => evalOpsK k r ops os (i + 1) id (putV o.dst v vals) (flAfter P pol k r i ops fl o) S' K
theorem evalOpsK_le {k r : Nat} {ops : List Oper} {K K' : List V → Fl → List Ob → Tr} (hK : ∀ vals fl S, (K vals fl S).le (K' vals fl S)) : ∀ (os : List Oper) (i id : Nat) (vals : List V) (fl : Fl) (S : List Ob), (evalOpsK P pol k r ops os i id vals fl S K).le (evalOps P pol k r ops os i id vals fl S K')
 | [], i, id, vals, fl, S => by simp only [evalOpsK, evalOps]; exact hK _ _ _
 | o :: os, i, id, vals, fl, S => by
  simp only [evalOpsK, evalOps]
  cases isAlloc o with
  | true => exact evalOpsK_le hK os _ _ _ _ _
  | false =>
   cases guardOk pol k r i o with
   | false => exact fail_le _
   | true =>
    cases effects P o with
    | false => exact Tr.le_trans (pvalGK_le P) (le_ob fun v _ => Tr.le_trans maySplit_le (evalOpsK_le hK os _ _ _ _ _))
    | true => exact Tr.le_trans (eval1GK_le P pol) (le_bind fun w => Tr.le_trans maySplit_le (evalOpsK_le hK os _ _ _ _ _))
def orderS (fl : Fl) (ops : List Oper) (bef : List Nat) (x y : Oper) (i j : Nat) : Bool :=
 (bef.getD j 0).testBit i || apart ops x y &&
  match cls P fl ops x, cls P fl ops y with
  | 0, _ => true
  | _, 0 => true
  | 2, _ => true
  | _, 2 => true
  | 1, 1 => true
  | _, _ => false
def drawS (fl : Fl) (ops : List Oper) : Bool :=
 let bef := befs ops []
 ops.zipIdx.all fun (y, j) => y.after.all (fun e => !Region.binds .any e || e.on < j) &&
  (match y.op with | .assign (.tmp t) => ops.all fun o => !(o.dst == some t && (match o.op with | .assign _ => true | _ => false)) | .select .. => false | _ => true) &&
  (!isAlloc y || (match y.dst with | some d => !mayTok fl ops d | none => true)) &&
  (ops.take j).zipIdx.all fun (x, i) => orderS P fl ops bef x y i j
theorem orderS_ok {n1 : Nat} {fl : Fl} {ops : List Oper} {vals : List V} {bef : List Nat} {x y : Oper} {i j : Nat} (h : orderS P fl ops bef x y i j = true) : orderOk P n1 fl ops vals bef x y i j = true := by
 unfold orderS at h
 unfold orderOk
 rw [Bool.or_eq_true, Bool.and_eq_true] at h ⊢
 rcases h with h | ⟨h1, h2⟩
 ·exact .inl h
 ·refine .inr ⟨h1, ?_⟩
  generalize cls P fl ops x = a at h2 ⊢
  generalize cls P fl ops y = b at h2 ⊢
  rcases a with _ | _ | _ | _ | a <;> rcases b with _ | _ | _ | _ | b <;> first | rfl | cases h2
theorem drawS_ok {n1 : Nat} {fl : Fl} {ops : List Oper} {vals : List V} (h : drawS P fl ops = true) : drawOk P n1 fl ops vals = true := by
 unfold drawS at h
 unfold drawOk
 rw [List.all_eq_true] at h ⊢
 intro y hy
 have := h y hy
 simp only [Bool.and_eq_true] at this ⊢
 refine ⟨this.1, ?_⟩
 have h2 := this.2
 rw [List.all_eq_true] at h2 ⊢
 intro x hx
 exact orderS_ok P (h2 x hx)
def stealS (k r : Nat) (ops : List Oper) : Bool := stealsOk P pol 0 k r true ops []
theorem stealS_ok {n k r : Nat} {ops : List Oper} {vals : List V} (h : stealS P pol k r ops = true) : stealsOk P pol n k r true ops vals = true := by
 unfold stealS stealsOk at h
 unfold stealsOk
 rw [List.all_eq_true] at h ⊢
 intro y hy
 have := h y hy
 revert this
 unfold stealOk
 split <;> try exact id
 split <;> try exact id
 split <;> try exact id
 split <;> try exact id
 split <;> try exact id
 split <;> simp
def evalRegionK (k r : Nat) (ops : List Oper) (vals : List V) (fl : Fl) (S : List Ob) (K : List V → Fl → List Ob → Tr) : Tr :=
 ob (allocs P pol k r ops vals ops 0 S) fun S1 => match drawS P fl ops && stealS P pol k r ops with
  | true => evalOpsK P pol k r ops ops 0 S.length vals fl S1 K
  | false => evalOpsK P pol k r ops ops 0 S.length vals fl S1 fun vals' fl' S' =>
   ift (drawOk P S1.length fl ops vals') (ift (stealsOk P pol S.length k r true ops vals') (K vals' fl' S'))
theorem evalRegionK_le {k r : Nat} {ops : List Oper} {draw : Bool} {vals : List V} {fl : Fl} {S : List Ob} {K K' : List V → Fl → List Ob → Tr} (hK : ∀ vals fl S, (K vals fl S).le (K' vals fl S)) : (evalRegionK P pol k r ops vals fl S K).le (evalRegion P pol k r ops draw vals fl S K') := by
 unfold evalRegionK evalRegion
 refine le_ob fun S1 _ => ?_
 split
 ·rename_i h
  rw [Bool.and_eq_true] at h
  refine evalOpsK_le P pol (fun vals' fl' S' => ?_) _ _ _ _ _ _
  rw [drawS_ok P h.1, stealS_ok P pol h.2]
  exact hK _ _ _
 ·exact evalOpsK_le P pol (fun vals' fl' S' => le_ift fun h1 => le_ift fun h2 => by rw [h1, h2]; exact hK _ _ _) _ _ _ _ _ _
def cndK (c : V) (x y : Tr) : Tr :=
 match c with
 | .d (.b t) => brB t x y
 | _ => .fail
theorem cndK_le {c : V} {x y x' y' : Tr} (hx : x.le x') (hy : y.le y') : (cndK c x y).le (cnd c x' y') := by
 unfold cndK cnd
 split
 ·rename_i t
  cases t
  ·exact hy
  ·exact hx
 ·exact fail_le _
def KLe (K K' : Kont) : Prop := ∀ e vals fl S, (K e vals fl S).le (K' e vals fl S)
theorem blockK_le {id : Nat} {K K' : Kont} (h : KLe K K') : KLe (blockK id K) (blockK id K') := by
 intro e vals fl S
 unfold blockK
 split
 ·split
  ·exact h _ _ _ _
  ·exact h _ _ _ _
 ·exact h _ _ _ _
def evalCodeK (fn : Func) (k n0 : Nat) : Code → List Bool → Kont → List V → Fl → List Ob → Tr
 | .skip, _, K, vals, fl, S => K none vals fl S
 | .region r ops draw, _, K, vals, fl, S => evalRegionK P pol k r ops.toList vals fl S (K none)
 | .seq a b, path, K, vals, fl, S => evalCodeK fn k n0 a (false :: path) (fun e vals fl S =>
   match e with
   | some id => K (some id) vals fl S
   | none => match pol.cut k (true :: path) with
    | some live => .call (.at_ k n0 (true :: path) (clearFrom live 0 vals) (clearF live fl) (trimS n0 (clearFrom live 0 vals) S)) .ret
    | none => evalCodeK fn k n0 b (true :: path) K vals fl S) vals fl S
 | .cond c a b, path, K, vals, fl, S => ob (ev vals c) fun v => cndK v (evalCodeK fn k n0 a (false :: path) K vals fl S) (evalCodeK fn k n0 b (true :: path) K vals fl S)
 | .block id c, path, K, vals, fl, S => evalCodeK fn k n0 c (false :: path) (blockK id K) vals fl S
 | .loop _, path, _, vals, fl, S => goAt pol k n0 path vals fl S
 | .exit id, _, K, vals, fl, S => K (some id) vals fl S
 | .ret, _, _, vals, _, S => fin P fn n0 vals S
 | _, _, _, _, _, _ => .fail
theorem evalCodeK_le {fn : Func} {k n0 : Nat} : ∀ (c : Code) (path : List Bool) (K K' : Kont), KLe K K' → ∀ vals fl S, (evalCodeK P pol fn k n0 c path K vals fl S).le (evalCode P pol fn k n0 c path K' vals fl S)
 | .skip, path, K, K', h, vals, fl, S => by simp only [evalCodeK, evalCode]; exact h _ _ _ _
 | .region r ops draw, path, K, K', h, vals, fl, S => by simp only [evalCodeK, evalCode]; exact evalRegionK_le P pol fun vals fl S => h _ _ _ _
 | .seq a b, path, K, K', h, vals, fl, S => by
  simp only [evalCodeK, evalCode]
  refine evalCodeK_le a _ _ _ (fun e vals fl S => ?_) _ _ _
  split
  ·exact h _ _ _ _
  ·cases hc : pol.cut k (true :: path) with
   | some live => exact Tr.le_refl _
   | none => exact evalCodeK_le b _ _ _ h _ _ _
 | .cond c a b, path, K, K', h, vals, fl, S => by
  simp only [evalCodeK, evalCode]
  exact le_ob fun v _ => cndK_le (evalCodeK_le a _ _ _ h _ _ _) (evalCodeK_le b _ _ _ h _ _ _)
 | .block id c, path, K, K', h, vals, fl, S => by
  simp only [evalCodeK, evalCode]
  exact evalCodeK_le c _ _ _ (blockK_le h) _ _ _
 | .loop _, path, K, K', h, vals, fl, S => by simp only [evalCodeK, evalCode]; exact Tr.le_refl _
 | .exit id, path, K, K', h, vals, fl, S => by simp only [evalCodeK, evalCode]; exact h _ _ _ _
 | .ret, path, K, K', h, vals, fl, S => by simp only [evalCodeK, evalCode]; exact Tr.le_refl _
 | .rangeFunc .., path, K, K', h, vals, fl, S => by simp only [evalCodeK]; exact fail_le _
 | .scope .., path, K, K', h, vals, fl, S => by simp only [evalCodeK]; exact fail_le _
 | .label .., path, K, K', h, vals, fl, S => by simp only [evalCodeK]; exact fail_le _
 | .goto .., path, K, K', h, vals, fl, S => by simp only [evalCodeK]; exact fail_le _
 | .refuse .., path, K, K', h, vals, fl, S => by simp only [evalCodeK]; exact fail_le _
def seqKK (fn : Func) (k n0 : Nat) (b : Code) (path : List Bool) (K : Kont) : Kont := fun e vals fl S =>
 match e with
 | some id => K (some id) vals fl S
 | none => match pol.cut k (true :: path) with
  | some live => .call (.at_ k n0 (true :: path) (clearFrom live 0 vals) (clearF live fl) (trimS n0 (clearFrom live 0 vals) S)) .ret
  | none => evalCodeK P pol fn k n0 b (true :: path) K vals fl S
theorem seqKK_le {fn : Func} {k n0 : Nat} {b : Code} {path : List Bool} {K K' : Kont} (h : KLe K K') : KLe (seqKK P pol fn k n0 b path K) (seqK P pol fn k n0 b path K') := by
 intro e vals fl S
 unfold seqKK seqK
 split
 ·exact h _ _ _ _
 ·cases hc : pol.cut k (true :: path) with
  | some live => exact Tr.le_refl _
  | none => exact evalCodeK_le P pol b _ _ _ h _ _ _
theorem loopK_le {k n0 : Nat} {path : List Bool} {K K' : Kont} (h : KLe K K') : KLe (loopK pol k n0 path K) (loopK pol k n0 path K') := by
 intro e vals fl S
 unfold loopK
 split
 ·exact h _ _ _ _
 ·exact Tr.le_refl _
def locateK (fn : Func) (k n0 : Nat) : List Bool → Code → List Bool → Kont → Option (Code × List Bool × Kont)
 | [], c, path, K => some (c, path, K)
 | false :: p, .seq a b, path, K => locateK fn k n0 p a (false :: path) (seqKK P pol fn k n0 b path K)
 | true :: p, .seq _ b, path, K => locateK fn k n0 p b (true :: path) K
 | false :: p, .cond _ a _, path, K => locateK fn k n0 p a (false :: path) K
 | true :: p, .cond _ _ b, path, K => locateK fn k n0 p b (true :: path) K
 | false :: p, .block id c, path, K => locateK fn k n0 p c (false :: path) (blockK id K)
 | false :: p, .loop c, path, K => locateK fn k n0 p c (false :: path) (loopK pol k n0 path K)
 | _, _, _, _ => none
theorem locateK_le {fn : Func} {k n0 : Nat} : ∀ (p : List Bool) (c : Code) (path : List Bool) (K K' : Kont), KLe K K' → ∀ x q J, locateK P pol fn k n0 p c path K = some (x, q, J) → ∃ J', locate P pol fn k n0 p c path K' = some (x, q, J') ∧ KLe J J'
 | [], c, path, K, K', h, x, q, J, e => by
  simp only [locateK, Option.some.injEq, Prod.mk.injEq] at e
  obtain ⟨rfl, rfl, rfl⟩ := e
  exact ⟨K', rfl, h⟩
 | t :: p, c, path, K, K', h, x, q, J, e => by
  cases t <;> cases c <;> simp only [locateK] at e <;> first | (cases e; done) | simp only [locate]
  ·exact locateK_le p _ _ _ _ (seqKK_le P pol h) _ _ _ e
  ·exact locateK_le p _ _ _ _ h _ _ _ e
  ·exact locateK_le p _ _ _ _ (blockK_le h) _ _ _ e
  ·exact locateK_le p _ _ _ _ (loopK_le pol h) _ _ _ e
  ·exact locateK_le p _ _ _ _ h _ _ _ e
  ·exact locateK_le p _ _ _ _ h _ _ _ e
def stepFK (fn : Func) (k : Nat) (args : List V) (S : List Ob) : Tr :=
 ob fn.body fun c => ift (decide (args.length ≤ fn.ntmps) && refsLts S.length args)
  (evalCodeK P pol fn k S.length c [] (rootK P fn S.length) (args ++ List.replicate (fn.ntmps - args.length) .u) [] S)
def stepAK (fn : Func) (k n0 : Nat) (path : List Bool) (vals : List V) (fl : Fl) (S : List Ob) : Tr :=
 ob fn.body fun c => ob (locateK P pol fn k n0 path.reverse c [] (rootK P fn n0)) fun l => match l with
  | (.loop b, p, K) => evalCodeK P pol fn k n0 b (false :: p) (loopK pol k n0 p K) vals fl S
  | (x, p, K) => evalCodeK P pol fn k n0 x p K vals fl S
def stepK : Task → Tr
 | .call k args S => match pol.ext k with
  | some f => ob (f args S) .ret
  | none => ob P.funcs[k]? fun fn => stepFK P pol fn k args S
 | .at_ k n0 path vals fl S => ob P.funcs[k]? fun fn => stepAK P pol fn k n0 path vals fl S
theorem stepK_le (t : Task) : (stepK P pol t).le (step P pol t) := by
 cases t with
 | call k args S =>
  simp only [stepK, step]
  cases he : pol.ext k with
  | some g => exact Tr.le_refl _
  | none =>
   refine le_ob fun fn _ => ?_
   unfold stepFK stepF
   refine le_ob fun c _ => le_ift fun h => ?_
   rw [h]
   exact evalCodeK_le P pol c _ _ _ (fun _ _ _ _ => Tr.le_refl _) _ _ _
 | at_ k n0 path vals fl S =>
  simp only [stepK, step]
  refine le_ob fun fn _ => ?_
  unfold stepAK stepA
  refine le_ob fun c _ => ?_
  refine ob_le fun l hl => ?_
  obtain ⟨x, p, K⟩ := l
  obtain ⟨J', e1, e2⟩ := locateK_le P pol _ _ _ _ _ (fun _ _ _ _ => Tr.le_refl _) _ _ _ hl
  rw [e1]
  simp only [ob]
  split
  ·rename_i hx
   cases hx
   exact evalCodeK_le P pol _ _ _ _ (loopK_le pol e2) _ _ _
  ·rename_i hne hx
   cases hx
   split
   ·rename_i b' p' K'' hy
    cases hy
    exact (hne _ rfl).elim
   ·rename_i hy
    cases hy
    exact evalCodeK_le P pol _ _ _ _ e2 _ _ _
def rkN : Nat → Task → Option Out
 | 0, _ => none
 | n + 1, t => interp (rkN n) (stepK P pol t)
theorem rkN_runN : ∀ (n : Nat) (t : Task) (o : Out), rkN P pol n t = some o → runN P pol n t = some o
 | 0, _, _, h => by simp [rkN] at h
 | n + 1, t, o, h => stepK_le P pol t _ _ (interp_mono (rkN_runN n) _ _ h)
open Classical in
/-- What the read form answers. -/
noncomputable def rk (t : Task) : Option Out := if h : ∃ r n, rkN P pol n t = some r then some h.choose else none
end
section
variable {P : Program} {pol : Pol}
theorem rkN_mono : ∀ (n : Nat) (t : Task) (r : Out), rkN P pol n t = some r → rkN P pol (n + 1) t = some r
 | 0, _, _, e => by simp [rkN] at e
 | n + 1, t, r, e => interp_mono (rkN_mono n) _ r e
theorem rkN_le {n m : Nat} (h : n ≤ m) (t : Task) (r : Out) (e : rkN P pol n t = some r) : rkN P pol m t = some r := by
 induction h with
 | refl => exact e
 | step _ ih => exact rkN_mono _ t r ih
theorem rk_some {t : Task} {r : Out} : rk P pol t = some r ↔ ∃ n, rkN P pol n t = some r := by
 constructor
 ·intro h
  unfold rk at h
  split at h
  ·rename_i hx
   obtain ⟨n, hn⟩ := hx.choose_spec
   injection h with h
   exact ⟨n, h ▸ hn⟩
  ·simp at h
 ·rintro ⟨n, hn⟩
  have hx : ∃ r n, rkN P pol n t = some r := ⟨r, n, hn⟩
  unfold rk
  rw [dif_pos hx]
  obtain ⟨m, hm⟩ := hx.choose_spec
  have h1 := rkN_le (Nat.le_max_left n m) t r hn
  have h2 := rkN_le (Nat.le_max_right n m) t _ hm
  rw [h1] at h2
  exact h2.symm
theorem interp_rk : ∀ (x : Tr) (r : Out), interp (rk P pol) x = some r → ∃ n, interp (rkN P pol n) x = some r
 | .ret _, _, e => ⟨0, e⟩
 | .fail, _, e => by simp [interp] at e
 | .call t k, r, e => by
  simp only [interp] at e
  cases hf : rk P pol t with
  | none => rw [hf] at e; simp at e
  | some o =>
   rw [hf] at e
   obtain ⟨n, hn⟩ := rk_some.1 hf
   obtain ⟨m, hm⟩ := interp_rk (k o) r e
   refine ⟨max n m, ?_⟩
   simp only [interp, rkN_le (Nat.le_max_left n m) t o hn]
   exact interp_mono (fun t r h => rkN_le (Nat.le_max_right n m) t r h) _ r hm
theorem rk_eq (t : Task) : rk P pol t = interp (rk P pol) (stepK P pol t) := by
 apply Option.ext
 intro r
 constructor
 ·intro h
  obtain ⟨n, hn⟩ := rk_some.1 h
  cases n with
  | zero => simp [rkN] at hn
  | succ n => exact interp_mono (fun t r h => rk_some.2 ⟨n, h⟩) _ r hn
 ·intro h
  obtain ⟨n, hn⟩ := interp_rk _ r h
  exact rk_some.2 ⟨n + 1, hn⟩
theorem rk_run {t : Task} {o : Out} (h : rk P pol t = some o) : run P pol t = some o := by
 obtain ⟨n, hn⟩ := rk_some.1 h
 exact run_some.2 ⟨n, rkN_runN P pol n t o hn⟩
theorem rk_of {t : Task} {T : Tr} (h : stepK P pol t = T) : rk P pol t = interp (rk P pol) T := by rw [rk_eq, h]
end
end Go.Dn
namespace Go.Dn
set_option linter.unusedVariables false
def sv (n : Nat) (l : List (Nat × V)) : List V := (List.range n).map fun i => (l.lookup i).getD .u
section
variable {f : Task → Option Out}
@[simp] theorem interp_ret (o : Out) : interp f (.ret o) = some o := rfl
@[simp] theorem interp_fail : interp f .fail = none := rfl
@[simp] theorem interp_ob' {α : Type} (x : Option α) (K : α → Tr) : interp f (ob x K) = x.bind fun a => interp f (K a) := interp_ob f x K
@[simp] theorem interp_ift' (c : Bool) (x : Tr) : interp f (ift c x) = if c = true then interp f x else none := interp_ift f c x
@[simp] theorem interp_brB (c : Bool) (x y : Tr) : interp f (brB c x y) = if c = true then interp f x else interp f y := by cases c <;> rfl
@[simp] theorem interp_call' (t : Task) (K : Out → Tr) : interp f (.call t K) = (f t).bind fun o => interp f (K o) := interp_call f t K
@[simp] theorem interp_call_ret (t : Task) : interp f (.call t .ret) = f t := by
 rw [interp_call]; cases f t <;> rfl
@[simp] theorem interp_asI (k j : IntKind) (n : Int) (K : Int → Tr) : interp f (asI k (.i j n) K) = if j = k then interp f (K n) else none := by
 simp only [asI, interp_ift, beq_iff_eq]
@[simp] theorem asB_b (b : Bool) (K : Bool → Tr) : asB (.b b) K = K b := rfl
@[simp] theorem asS_s (b : List UInt8) (K : List UInt8 → Tr) : asS (.s b) K = K b := rfl
@[simp] theorem asL_l (f : Bool) (xs : List D) (K : Bool → List D → Tr) : asL (.l f xs) K = K f xs := rfl
@[simp] theorem asD_d (d : D) (K : D → Tr) : asD (.d d) K = K d := rfl
@[simp] theorem unT_t (vs : List V) (K : List V → Tr) : unT (.t vs) K = K vs := rfl
@[simp] theorem unCons_c (b : Ob) (bs : List Ob) (K : Ob → List Ob → Tr) : unCons (b :: bs) K = K b bs := rfl
@[simp] theorem unNil_n (K : Tr) : unNil [] K = K := rfl
@[simp] theorem unCells_c (cs : List V) (fl : Fl) (K : List V → Fl → Tr) : unCells (.cells cs fl) K = K cs fl := rfl
@[simp] theorem unMap_m (es : List (D × D)) (K : List (D × D) → Tr) : unMap (.map es) K = K es := rfl
@[simp] theorem unIter_i (s : List UInt8) (n : Nat) (K : List UInt8 → Nat → Tr) : unIter (.iter s n) K = K s n := rfl
theorem interp_asM (cs : List V) (len : Nat) (K : List V → Nat → Tr) : interp f (asM (.m 0 0 len, [.cells cs []]) K) = if refsLts 0 cs = true then interp f (K cs len) else none := by
 simp only [asM, interp_ift]
@[simp] theorem interp_asG (n : Nat) (cs : List D) (K : List D → Tr) : interp f (asG n (.g cs) K) = if cs.length = n then interp f (K cs) else none := by
 simp only [asG, interp_ift, beq_iff_eq]
end
@[simp] theorem getI_nat {α : Type} (l : List α) (n : Nat) : getI l (n : Int) = l[n]? := by simp [getI]
@[simp] theorem getI_zero {α : Type} (l : List α) : getI l 0 = l[0]? := by simp [getI]
@[simp] theorem width_b (b : Bool) : (D.b b).width = 1 := rfl
@[simp] theorem width_i (k : IntKind) (n : Int) : (D.i k n).width = 1 := rfl
@[simp] theorem width_s (x : List UInt8) : (D.s x).width = 1 := rfl
@[simp] theorem width_l (f : Bool) (xs : List D) : (D.l f xs).width = 1 := rfl
@[simp] theorem width_g (cs : List D) : (D.g cs).width = cs.length := rfl
@[simp] theorem cells_b (b : Bool) : (D.b b).cells = [.b b] := rfl
@[simp] theorem cells_i (k : IntKind) (n : Int) : (D.i k n).cells = [.i k n] := rfl
@[simp] theorem cells_s (x : List UInt8) : (D.s x).cells = [.s x] := rfl
@[simp] theorem cells_l (f : Bool) (xs : List D) : (D.l f xs).cells = [.l f xs] := rfl
@[simp] theorem cells_g (cs : List D) : (D.g cs).cells = cs := rfl
@[simp] theorem len_ints (k : IntKind) (zs : List Int) : (ints k zs).length = zs.length := ints_length k zs
@[simp] theorem get_ints (k : IntKind) (zs : List Int) (i : Nat) : (ints k zs)[i]? = zs[i]?.map (.i k) := by simp [ints]
@[simp] theorem head_ints (k : IntKind) (zs : List Int) : headOk 1 (ints k zs) = true := by
 cases zs <;> simp [ints, headOk]
@[simp] theorem headOk_nil (n : Nat) : headOk n [] = true := rfl
@[simp] theorem headOk_cons (n : Nat) (x : D) (xs : List D) : headOk n (x :: xs) = (x.width == n) := rfl
theorem ints_cons (k : IntKind) (z : Int) (zs : List Int) : ints k (z :: zs) = .i k z :: ints k zs := rfl
theorem ints_snoc (k : IntKind) (a : List Int) (z : Int) : ints k a ++ [.i k z] = ints k (a ++ [z]) := by simp [ints]
theorem take_ints (k : IntKind) (a : List Int) (n : Nat) : (ints k a).take n = ints k (a.take n) := by simp [ints]
@[simp] theorem oneAll_ints (k : IntKind) (zs : List Int) : oneAll (ints k zs) = true := by
 simp [oneAll, ints, D.cells, V.one]
@[simp] theorem oneAll_nil : oneAll [] = true := rfl
@[simp] theorem oneAll_cons (x : D) (xs : List D) : oneAll (x :: xs) = ((x.cells.all fun c => (V.d c).one) && oneAll xs) := by simp [oneAll]
@[simp] theorem one_b (b : Bool) : (V.d (.b b)).one = true := rfl
@[simp] theorem one_i (k : IntKind) (n : Int) : (V.d (.i k n)).one = true := rfl
@[simp] theorem one_s (x : List UInt8) : (V.d (.s x)).one = true := rfl
@[simp] theorem one_l (f : Bool) (xs : List D) : (V.d (.l f xs)).one = true := rfl
theorem wrap_i64 {n : Int} (h1 : -9223372036854775808 ≤ n) (h2 : n ≤ 9223372036854775807) : IntKind.i64.wrap n = n := by
 have e : ((2 : Int) ^ IntKind.i64.bits) = 18446744073709551616 := by decide
 have e2 : ((2 : Int) ^ (IntKind.i64.bits - 1)) = 9223372036854775808 := by decide
 simp only [IntKind.wrap, IntKind.signed, Bool.true_and, decide_eq_true_eq, e, e2]
 split <;> omega
theorem wrap_u8 {n : Int} (h1 : 0 ≤ n) (h2 : n < 256) : IntKind.u8.wrap n = n := by
 have e : ((2 : Int) ^ IntKind.u8.bits) = 256 := by decide
 simp only [IntKind.wrap, IntKind.signed, Bool.false_and, e]
 simp; omega
end Go.Dn
namespace Go.Dn
section
variable {f : Task → Option Out}
theorem st_call {t : Task} {o : Out} {K : Out → Tr} (h : f t = some o) : interp f (.call t K) = interp f (K o) := by rw [interp_call, h]; rfl
theorem st_ret {t : Task} {o : Out} (h : f t = some o) : interp f (.call t .ret) = some o := by rw [st_call h]; rfl
theorem st_B {t : Task} {b : Bool} {K : Bool → Tr} (h : f t = some (.d (.b b), [])) :
  interp f (.call t fun o => ift o.snd.isEmpty (asD o.fst fun d => asB d fun x => K x)) = interp f (K b) := st_call h
theorem st_S {t : Task} {s : List UInt8} {K : List UInt8 → Tr} (h : f t = some (.d (.s s), [])) :
  interp f (.call t fun o => ift o.snd.isEmpty (asD o.fst fun d => asS d fun x => K x)) = interp f (K s) := st_call h
theorem st_L {t : Task} {b : Bool} {l : List D} {K : Bool → List D → Tr} (h : f t = some (.d (.l b l), [])) :
  interp f (.call t fun o => ift o.snd.isEmpty (asD o.fst fun d => asL d fun x y => K x y)) = interp f (K b l) := st_call h
theorem st_I {t : Task} {k : IntKind} {n : Int} {K : Int → Tr} (h : f t = some (.d (.i k n), [])) :
  interp f (.call t fun o => ift o.snd.isEmpty (asD o.fst fun d => asI k d fun x => K x)) = interp f (K n) := by
 rw [st_call h]
 show interp f (asI k (.i k n) K) = _
 rw [interp_asI, if_pos rfl]
theorem st_if {c : Prop} [Decidable c] {X : Tr} (h : c) : interp f (ift (decide c) X) = interp f X := by rw [interp_ift', decide_eq_true h, if_pos rfl]
theorem st_ift {X : Tr} : interp f (ift true X) = interp f X := by rw [interp_ift', if_pos rfl]
theorem st_t {c : Prop} [Decidable c] {X Y : Tr} (h : c) : interp f (brB (decide c) X Y) = interp f X := by rw [interp_brB, decide_eq_true h, if_pos rfl]
theorem st_f {c : Prop} [Decidable c] {X Y : Tr} (h : ¬ c) : interp f (brB (decide c) X Y) = interp f Y := by rw [interp_brB, decide_eq_false h, if_neg (by decide)]
theorem st_bt {b : Bool} {X Y : Tr} (h : b = true) : interp f (brB b X Y) = interp f X := by rw [interp_brB, h, if_pos rfl]
theorem st_bf {b : Bool} {X Y : Tr} (h : b = false) : interp f (brB b X Y) = interp f Y := by rw [interp_brB, h, if_neg (by decide)]
theorem st_T {X Y : Tr} : interp f (brB true X Y) = interp f X := rfl
theorem st_F {X Y : Tr} : interp f (brB false X Y) = interp f Y := rfl
theorem st_nt {X Y : Tr} : interp f (brB (!true) X Y) = interp f Y := rfl
theorem st_nf {X Y : Tr} : interp f (brB (!false) X Y) = interp f X := rfl
theorem st_eq {n m : Int} {X Y : Tr} (h : n = m) : interp f (brB (n == m) X Y) = interp f X := st_bt (beq_iff_eq.2 h)
theorem st_ne {n m : Int} {X Y : Tr} (h : n ≠ m) : interp f (brB (n == m) X Y) = interp f Y := st_bf (beq_eq_false_iff_ne.2 h)
theorem st_ne_t {n m : Int} {X Y : Tr} (h : n ≠ m) : interp f (brB (n != m) X Y) = interp f X := st_bt (bne_iff_ne.2 h)
theorem st_ne_f {n m : Int} {X Y : Tr} (h : n = m) : interp f (brB (n != m) X Y) = interp f Y := st_bf (by rw [h]; exact bne_self_eq_false m)
theorem st_ob {α : Type} {x : Option α} {a : α} {K : α → Tr} (h : x = some a) : interp f (ob x K) = interp f (K a) := by rw [interp_ob', h]; rfl
end
end Go.Dn
namespace Go.Dn
section
variable {f : Task → Option Out}
theorem st_asI {k : IntKind} {n : Int} {K : Int → Tr} : interp f (asI k (.i k n) K) = interp f (K n) := by rw [interp_asI, if_pos rfl]
theorem so_I {t : Task} {k : IntKind} {n : Int} {cs : List V} {fl fl' : Fl} {m : Nat} {K : List V → Int → Tr} (h : f t = some (.d (.i k n), [.cells cs fl])) (hm : cs.length = m) (hf : (fl == fl') = true) :
  interp f (.call t fun o => unCons o.snd fun x l2 => unCells x fun c g => ift (c.length == m) (ift (g == fl') (unNil l2 (asD o.fst fun d => asI k d fun y => K c y)))) = interp f (K cs n) := by
 rw [st_call h]
 show interp f (ift (cs.length == m) (ift (fl == fl') (asI k (.i k n) fun y => K cs y))) = _
 rw [hm, beq_self_eq_true, st_ift, hf, st_ift, interp_asI, if_pos rfl]
end
end Go.Dn
namespace Go.Dn
abbrev vi (n : Int) : V := .d (.i .i64 n)
abbrev vu (n : Int) : V := .d (.i .u64 n)
abbrev vs (s : List UInt8) : V := .d (.s s)
abbrev vl (b : Bool) (l : List D) : V := .d (.l b l)
abbrev vb (b : Bool) : V := .d (.b b)
abbrev gD (w k : Nat) (d : D) (j : Nat) : D := (List.take w (List.drop k d.cells)).getD j (D.b false)
abbrev eL (l : List D) (n : Int) (w : Nat) (K : D → Tr) : Tr := ob (getI l n) fun d => ift (d.width == w) (ob l[n.toNat]? fun e => ift (decide (w ≤ e.width)) (K e))
abbrev eC (l : List D) (n : Int) (w j : Nat) (K : D → Tr) : Tr := ob (getI l n) fun d => ift (d.width == w) (ob l[n.toNat]? fun e => ob e.cells[j]? K)
abbrev cV (t : Task) (K : V → Tr) : Tr := .call t fun o => ift o.snd.isEmpty (K o.fst)
abbrev aS (v : V) (K : List UInt8 → Tr) : Tr := asD v fun d => asS d K
abbrev aB (v : V) (K : Bool → Tr) : Tr := asD v fun d => asB d K
abbrev aI (v : V) (K : Int → Tr) : Tr := asD v fun d => asI .i64 d K
abbrev aU (v : V) (K : Int → Tr) : Tr := asD v fun d => asI .u64 d K
abbrev aL (v : V) (K : Bool → List D → Tr) : Tr := asD v fun d => asL d K
abbrev c1 (t : Task) (n : Nat) (fl : Fl) (K : V → List V → Tr) : Tr := .call t fun o => unCons o.snd fun x l => unCells x fun c g => ift (c.length == n) (ift (g == fl) (unNil l (K o.fst c)))
abbrev c2 (t : Task) (n : Nat) (fl : Fl) (m : Nat) (fm : Fl) (K : V → List V → List V → Tr) : Tr :=
 .call t fun o => unCons o.snd fun x l => unCells x fun c g => ift (c.length == n) (ift (g == fl) (unCons l fun y k => unCells y fun d h => ift (d.length == m) (ift (h == fm) (unNil k (K o.fst c d)))))
end Go.Dn
namespace Go.Dn
set_option linter.unusedVariables false
def dnL : Loc → Loc
 | .obj 1 => .obj 0
 | _ => .ext
def upL1 : Loc → Loc
 | .obj _ => .obj 1
 | .cell _ off => .cell 1 off
 | ℓ => ℓ
def dnG (G : Sg) : Sg := ⟨G.F, fun b => (G.own b).map dnL⟩
open Classical in
noncomputable def upG (G A : Sg) : Sg := ⟨A.F, fun b => if (dnG G).own b = some .ext then G.own b else (A.own b).map upL1⟩
section
variable {P : Program} {pol : Pol}
theorem dn_obj {G : Sg} {b id : Nat} : (dnG G).own b = some (.obj id) ↔ G.own b = some (.obj 1) ∧ id = 0 := by
 simp only [dnG]
 cases h : G.own b with
 | none => simp
 | some ℓ =>
  cases ℓ with
  | obj i =>
   by_cases hi : i = 1
   ·subst hi; simp [dnL]; exact eq_comm
   ·have : dnL (.obj i) = .ext := by
     unfold dnL
     split
     ·rename_i e; injection e with e; exact absurd e hi
     ·rfl
    simp [this, hi]
  | _ => simp [dnL]
theorem dn_ext {G : Sg} {b : Nat} {ℓ : Loc} (h : G.own b = some ℓ) (hn : ℓ ≠ .obj 1) : (dnG G).own b = some .ext := by
 simp only [dnG, h, Option.map_some]
 congr 1
 unfold dnL
 split
 ·exact absurd rfl hn
 ·rfl
theorem dn_some {G : Sg} {b : Nat} {ℓ : Loc} (h : (dnG G).own b = some ℓ) : ∃ ℓ', G.own b = some ℓ' := by
 simp only [dnG] at h
 cases h' : G.own b with
 | none => rw [h'] at h; simp at h
 | some ℓ' => exact ⟨_, rfl⟩
theorem dn_two {G : Sg} {b : Nat} {ℓ : Loc} (h : (dnG G).own b = some ℓ) : ℓ = .ext ∨ ℓ = .obj 0 := by
 simp only [dnG] at h
 obtain ⟨ℓ', _, rfl⟩ := Option.map_eq_some_iff.1 h
 unfold dnL
 split
 ·exact .inr rfl
 ·exact .inl rfl
theorem GoodCall.up {k : Nat} {args : List V} {cs cs' : List V} {v : V} {x : Ob} (h : GoodCall P k (.p 0 0 :: args) [.cells cs []] (v, [.cells cs' []])) (ha : refsLts 0 args = true) (hc : refsLts 0 cs = true) (hc' : refsLts 0 cs' = true) (hv : refsLt 0 v = true) :
  GoodCall P k (.p 1 0 :: args) [.cells cs [], x] (v, [.cells cs' [], x]) := by
 intro w G vs hI hr hsl
 have hIA : Inv w (dnG G) [.cells cs []] := by
  refine ⟨hI.fz, fun b id h => ?_, fun b b' id h h' => ?_, fun b ℓ h => ?_, fun b id o h => ?_, fun id cs0 fl h => ?_, hI.tb_of fun b _ h0 => ⟨rfl, by simp [dnG, h0]⟩⟩
  ·obtain ⟨hg, e0⟩ := dn_obj.1 h
   subst e0
   obtain ⟨h1, o, go, h2, h3, h4⟩ := hI.ob b 1 hg
   have : o = .cells cs [] := by simpa [oget] using h2.symm
   subst this
   refine ⟨h1, _, go, rfl, h3, ?_⟩
   cases go <;> simp only [ObR] at h4 ⊢
   obtain ⟨p1, p2, p3⟩ := h4
   refine ⟨p1, fun o c hcc => ?_, fun o sz hm => by simp at hm⟩
   obtain ⟨y, hy, hry, hf, ho⟩ := p2 o c hcc
   exact ⟨y, hy, RV.lift (A := G) (B := dnG G) (n := 0) (fun _ _ _ h => h) (fun b i hi _ => by omega) c y (refsLts_get.1 hc c (List.mem_of_getElem? hcc)) hry, hf, ho⟩
  ·exact hI.inj _ _ _ (dn_obj.1 h).1 (dn_obj.1 h').1
  ·obtain ⟨ℓ', h'⟩ := dn_some h; exact hI.tk _ _ h'
  ·rcases dn_two h with e | e <;> cases e
  ·have : id = 0 := by have := oget_lt h; simpa using this
   subst this
   simp [oget] at h
   obtain ⟨rfl, rfl⟩ := h
   exact refsLts_mono (by omega) _ hc
 have hrA : RVs (dnG G) (.p 0 0 :: args) vs.toList := by
  simp only [RVs] at hr ⊢
  obtain ⟨y, r, e, h1, h2⟩ := hr
  refine ⟨y, r, e, ?_, RVs.lift (A := G) (B := dnG G) (n := 0) (fun _ _ _ h => h) (fun b i hi _ => by omega) _ _ ha h2⟩
  simp only [RV] at h1 ⊢
  obtain ⟨blk, ho, e⟩ := h1
  exact ⟨blk, dn_obj.2 ⟨ho, rfl⟩, e⟩
 refine (h w (dnG G) vs hIA hrA fun b q h => by rcases dn_two h with e | e <;> cases e).mono ?_
 rintro y w' ⟨A, hy, hA, hE⟩
 have hidK : ∀ b, (dnG G).own b = some .ext → A.own b = some .ext ∧ w'.heap[b]? = w.heap[b]? ∧ (∀ o, A.F b o = G.F b o) ∧ (upG G A).own b = G.own b := by
  intro b hb
  obtain ⟨ℓ, hℓ⟩ := dn_some hb
  obtain ⟨h1, h2, h3⟩ := hE.keep b (hI.tk _ _ hℓ) (.inr hb)
  exact ⟨by rw [h1]; exact hb, h2, h3, by simp only [upG]; rw [if_pos hb]⟩
 have seen : ∀ b, (dnG G).own b ≠ some .ext → (upG G A).own b = (A.own b).map upL1 := by
  intro b hb; simp only [upG]; rw [if_neg hb]
 have seen' : ∀ b ℓ, A.own b = some ℓ → ℓ ≠ .ext → (upG G A).own b = some (upL1 ℓ) := by
  intro b ℓ h1 h2
  rw [seen b fun hb => h2 (by have := (hidK b hb).1; rw [h1] at this; exact Option.some.inj this), h1]; rfl
 have hobj : ∀ b id, (upG G A).own b = some (.obj id) → ((dnG G).own b = some .ext ∧ G.own b = some (.obj id) ∧ id = 0) ∨ (A.own b = some (.obj 0) ∧ id = 1 ∧ (dnG G).own b ≠ some .ext) := by
  intro b id h
  by_cases hb : (dnG G).own b = some .ext
  ·rw [(hidK b hb).2.2.2] at h
   obtain ⟨_, o, _, ho, _⟩ := hI.ob _ _ h
   have hlt := oget_lt ho
   simp only [List.length_cons, List.length_nil] at hlt
   have : id ≠ 1 := by
    rintro rfl
    rw [dn_obj.2 ⟨h, rfl⟩] at hb; cases hb
   exact .inl ⟨hb, h, by omega⟩
  ·rw [seen b hb] at h
   obtain ⟨ℓ, h1, h2⟩ := Option.map_eq_some_iff.1 h
   cases ℓ with
   | obj i =>
    simp only [upL1] at h2
    injection h2 with h2
    obtain ⟨_, o, _, ho, _⟩ := hA.ob _ _ h1
    have hlt := oget_lt ho
    simp only [List.length_cons, List.length_nil] at hlt
    have : i = 0 := by omega
    subst this
    exact .inr ⟨h1, h2.symm, hb⟩
   | cell i o => simp only [upL1] at h2; cases h2
   | slot q => simp only [upL1] at h2; cases h2
   | ext => simp only [upL1] at h2; cases h2
 have hle : Le G (upG G A) := by
  refine ⟨hE.F, fun b id h => ?_⟩
  by_cases hid : id = 1
  ·subst hid
   rw [seen' b _ (hE.obj _ _ (dn_obj.2 ⟨h, rfl⟩)) (by simp)]; rfl
  ·rw [(hidK b (dn_ext h (by simp [hid]))).2.2.2]; exact h
 have hlift : ∀ z u, refsLt 0 z = true → RV A z u → RV (upG G A) z u := fun z u hz hu => RV.lift (A := A) (B := upG G A) (n := 0) (fun _ _ _ h => h) (fun b i hi _ => by omega) z u hz hu
 refine ⟨upG G A, hlift _ _ hv hy, ⟨hA.fz, fun b id h => ?_, fun b b' id h h' => ?_, fun b ℓ h => ?_, fun b id o h => ?_, fun id cs0 fl h => ?_, fun b arr hb => ⟨(hA.tb b arr hb).1, ?_⟩⟩, ⟨hE.os, hE.tape, hE.output, hE.size, hE.F, hle.obj, fun b hb h => ?_, fun b id h hid => ?_, fun id hid hn => ?_, Nat.le_refl _⟩⟩
 ·rcases hobj b id h with ⟨h1, h2, rfl⟩ | ⟨h1, rfl, _⟩
  ·obtain ⟨k1, k2, k3, k4⟩ := hidK b h1
   obtain ⟨p1, o, go, p2, p3, p4⟩ := hI.ob _ _ h2
   refine ⟨fun o => (k3 o).trans (p1 o), o, go, p2, by rw [k2]; exact p3, p4.same hle fun off blk hk => ?_⟩
   obtain ⟨j1, j2, j3, j4⟩ := hidK blk (dn_ext hk (by simp))
   exact ⟨by rw [j4]; exact hk, j2, j3⟩
  ·obtain ⟨p1, o, go, p2, p3, p4⟩ := hA.ob _ _ h1
   have : o = .cells cs' [] := by simpa [oget] using p2.symm
   subst this
   refine ⟨p1, _, go, rfl, p3, ?_⟩
   cases go <;> simp only [ObR] at p4 ⊢
   obtain ⟨q1, q2, q3⟩ := p4
   refine ⟨q1, fun o c hcc => ?_, fun o sz hm => by simp at hm⟩
   obtain ⟨u, hu, hru, hf, ho⟩ := q2 o c hcc
   exact ⟨u, hu, hlift c u (refsLts_get.1 hc' c (List.mem_of_getElem? hcc)) hru, hf, ho⟩
 ·rcases hobj b id h with ⟨h1, h2, h3⟩ | ⟨h1, h2, _⟩ <;> rcases hobj b' id h' with ⟨k1, k2, k3⟩ | ⟨k1, k2, _⟩
  ·exact hI.inj _ _ _ h2 k2
  ·omega
  ·omega
  ·exact hA.inj _ _ _ h1 k1
 ·by_cases hb : (dnG G).own b = some .ext
  ·rw [(hidK b hb).2.2.2] at h
   exact Nat.lt_of_lt_of_le (hI.tk _ _ h) hE.size
  ·rw [seen b hb] at h
   obtain ⟨ℓ', h1, _⟩ := Option.map_eq_some_iff.1 h
   exact hA.tk _ _ h1
 ·by_cases hb : (dnG G).own b = some .ext
  ·rw [(hidK b hb).2.2.2] at h
   exact hI.cl _ _ _ h
  ·rw [seen b hb] at h
   obtain ⟨ℓ', h1, h2⟩ := Option.map_eq_some_iff.1 h
   cases ℓ' with
   | obj i => simp only [upL1] at h2; cases h2
   | cell i o' => simp only [upL1] at h2; injection h2 with h2 _; subst h2; simp
   | slot q => simp only [upL1] at h2; cases h2
   | ext => simp only [upL1] at h2; cases h2
 ·have hlt := oget_lt h
  simp only [List.length_cons, List.length_nil] at hlt
  rcases (by omega : id = 0 ∨ id = 1) with rfl | rfl
  ·exact hI.rf 0 cs0 fl (by simpa [oget] using h)
  ·simp [oget] at h
   obtain ⟨rfl, rfl⟩ := h
   exact refsLts_mono (by omega) _ hc'
 ·have h0 := hI.tb b arr hb
  have h1 := hA.tb b arr hb
  rw [seen b (by simp [dnG, h0.2]), h1.2]; rfl
 ·rcases h with h | h
  ·have hd : (dnG G).own b = none := by simp [dnG, h]
   obtain ⟨k1, k2, k3⟩ := hE.keep b hb (.inl hd)
   exact ⟨by rw [seen b (by rw [hd]; simp), k1, hd, h]; rfl, k2, k3⟩
  ·have hd := dn_ext h (by simp)
   obtain ⟨k1, k2, k3, k4⟩ := hidK b hd
   exact ⟨k4, k2, k3⟩
 ·rcases hobj b id h with ⟨h1, h2, _⟩ | ⟨h1, rfl, _⟩
  ·exact h2
  ·exact (dn_obj.1 (hE.newo b 0 h1 (by simp))).1
 ·simp only [List.length_cons, List.length_nil] at hid
  rcases (by omega : id = 0 ∨ id = 1) with rfl | rfl
  ·simp [oget]
  ·have := hE.ph 0 (by simp) fun b hb => hn b (dn_obj.1 hb).1
   simpa [oget] using this
noncomputable def upExt (P : Program) (pol : Pol) (k : Nat) (args : List V) (S : List Ob) : Option Out :=
 match args, S with
 | .p 1 0 :: as, [.cells cs [], x] => if refsLts 0 as = true ∧ refsLts 0 cs = true then
   (match run P pol (.call k (.p 0 0 :: as) [.cells cs []]) with
   | some (v, [.cells cs' []]) => if refsLts 0 cs' = true ∧ refsLt 0 v = true then some (v, [.cells cs' [], x]) else none
   | _ => none) else none
 | as, S => run P pol (.call k as S)
theorem upExt_good (hg : GoodF P (run P pol)) {k : Nat} {args : List V} {S : List Ob} {o : Out} (h : upExt P pol k args S = some o) : GoodCall P k args S o := by
 unfold upExt at h
 split at h
 ·rename_i as cs x
  split at h
  ·rename_i hc
   split at h
   ·rename_i v cs' hr
    split at h
    ·rename_i hc2
     injection h with h; subst h
     exact (hg _ _ _ _ hr).up hc.1 hc.2 hc2.1 hc2.2
    ·cases h
   ·cases h
  ·cases h
 ·exact hg _ _ _ _ h
theorem upExt_eq {k : Nat} {as cs cs' : List V} {v : V} {x : Ob} (h : run P pol (.call k (.p 0 0 :: as) [.cells cs []]) = some (v, [.cells cs' []])) (ha : refsLts 0 as = true) (hc : refsLts 0 cs = true) (hc' : refsLts 0 cs' = true) (hv : refsLt 0 v = true) :
  upExt P pol k (.p 1 0 :: as) [.cells cs [], x] = some (v, [.cells cs' [], x]) := by
 simp only [upExt, if_pos (And.intro ha hc), h, if_pos (And.intro hc' hv)]
end
end Go.Dn
