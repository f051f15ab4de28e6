/- Numbers as rows of words, the least ahead. -/
import Derived.Test.YtbjllhjbhdjfjaaDoorDn4
import Derived.Test.YtbjllhjbhdjfjaaDoorProg
import Derived.KernelRfl
namespace Go.Dn.Dec
def W : Nat := 4294967296
theorem W_pos : 0 < W := by decide
def valL : List Int → Nat
  | [] => 0
  | z :: zs => z.toNat + W * valL zs
def limbs (n : Nat) : List Int :=
  if n = 0 then [] else (n % W : Nat) :: limbs (n / W)
termination_by n
decreasing_by exact Nat.div_lt_self (by omega) (by decide)
theorem limbs_zero : limbs 0 = [] := by rw [limbs]; simp
theorem limbs_pos {n : Nat} (h : n ≠ 0) : limbs n = ((n % W : Nat) : Int) :: limbs (n / W) := by rw [limbs, if_neg h]
/-- Words. -/
def U32 (a : List Int) : Prop := ∀ z ∈ a, 0 ≤ z ∧ z < 4294967296
theorem U32.cons {z : Int} {a : List Int} : U32 (z :: a) ↔ (0 ≤ z ∧ z < 4294967296) ∧ U32 a := by simp [U32]
theorem U32.nil : U32 [] := by simp [U32]
theorem U32.take {a : List Int} (h : U32 a) (n : Nat) : U32 (a.take n) := fun z hz => h z (List.mem_of_mem_take hz)
theorem U32.append {a b : List Int} (h : U32 a) (k : U32 b) : U32 (a ++ b) := fun z hz => (List.mem_append.1 hz).elim (h z) (k z)
theorem limbs_u32 (n : Nat) : U32 (limbs n) := by
  induction n using Nat.strongRecOn with
  | ind n ih =>
    by_cases h : n = 0
    · subst h; rw [limbs_zero]; exact U32.nil
    · rw [limbs_pos h]
      refine U32.cons.2 ⟨?_, ih _ (Nat.div_lt_self (by omega) (by decide))⟩
      have := Nat.mod_lt n W_pos
      unfold W at *; omega
theorem val_limbs (n : Nat) : valL (limbs n) = n := by
  induction n using Nat.strongRecOn with
  | ind n ih =>
    by_cases h : n = 0
    · subst h; rw [limbs_zero]; rfl
    · rw [limbs_pos h, valL, ih _ (Nat.div_lt_self (by omega) (by decide))]
      have := Nat.mod_add_div n W
      simp only [Int.toNat_natCast]; omega
theorem val_append (a b : List Int) : valL (a ++ b) = valL a + W ^ a.length * valL b := by
  induction a with
  | nil => simp [valL]
  | cons z a ih =>
    rw [List.cons_append, valL, valL, ih, List.length_cons, Nat.pow_succ, Nat.mul_add, Nat.mul_assoc, Nat.mul_left_comm W]
    rw [Nat.add_assoc]
theorem val_lt {a : List Int} (h : U32 a) : valL a < W ^ a.length := by
  induction a with
  | nil => simp [valL]
  | cons z a ih =>
    obtain ⟨hz, ha⟩ := U32.cons.1 h
    have := ih ha
    rw [valL, List.length_cons, Nat.pow_succ]
    have h1 : z.toNat < W := by unfold W; omega
    have : W * valL a + W ≤ W ^ a.length * W := by
      rw [Nat.mul_comm W, ← Nat.succ_mul]; exact Nat.mul_le_mul_right _ this
    omega
/-- A row whose last word is not 0 is its number's. -/
theorem limbs_val {a : List Int} (h : U32 a) (hl : ∀ z, a.getLast? = some z → z ≠ 0) : limbs (valL a) = a := by
  induction a with
  | nil => exact limbs_zero
  | cons z a ih =>
    obtain ⟨hz, ha⟩ := U32.cons.1 h
    have hzW : z.toNat < W := by unfold W; omega
    have ih' : limbs (valL a) = a := ih ha fun y hy => hl y (by rw [List.getLast?_cons]; simp [hy])
    have hne : valL (z :: a) ≠ 0 := by
      intro h0
      rw [valL] at h0
      have hz0 : z = 0 := by omega
      have ha0 : valL a = 0 := by
        rcases Nat.eq_zero_or_pos (valL a) with h | h
        · exact h
        · have := Nat.mul_pos W_pos h; omega
      rw [ha0, limbs_zero] at ih'
      subst ih'
      exact hl z (by simp) hz0
    rw [limbs_pos hne, valL, Nat.add_mul_mod_self_left, Nat.mod_eq_of_lt hzW, Nat.add_mul_div_left _ _ W_pos, Nat.div_eq_of_lt hzW, Nat.zero_add, ih']
    congr 1
    omega
/-- A number, as the programs hand it back. -/
def nl (n : Nat) : D := .l (decide (n = 0)) (ints .u32 (limbs n))
theorem limbs_nil_iff (n : Nat) : limbs n = [] ↔ n = 0 := by
  constructor
  · intro h; rw [← val_limbs n, h]; rfl
  · intro h; subst h; exact limbs_zero
theorem val_take_zero (a : List Int) (n : Nat) (h : a[n]? = some 0) : valL (a.take (n + 1)) = valL (a.take n) := by
  rw [List.take_add_one, h, val_append]
  simp [valL]
end Go.Dn.Dec
namespace Go.Dn.Dec
def cutT : List (Nat × List (Nat × List Nat)) :=
  [(17, [(31, [0, 3]), (639, [3, 4, 5, 6]), (2047, [3, 6, 7]), (8191, [3, 6, 7, 8])]),
  (32, [(15, [4, 5])]),
  (63, [(351, [1, 5, 6, 38, 39, 40])]),
  (64, [(19, [0, 3]), (195, [0, 3, 15])]),
  (66, [(87, [0, 1, 5])]),
  (67, [(43, [1, 5, 18, 19, 20]), (44235, [1, 5, 6, 7, 8, 18, 19, 20, 25, 26, 27])]),
  (68, [(13, [0, 9]), (39, [0, 3])]),
  (70, [(43, [0, 3, 7, 8])]),
  (71, [(55, [5, 31])]),
  (87, [(511, [4, 7, 8]), (4095, [9])]),
  (97, [(87, [1, 5, 6, 13, 14, 15])]),
  (99, [(175, [0, 1, 4, 5, 7]), (14639, [0, 1, 4, 5, 7])]),
  (100, [(7, [0, 1]), (175, [1, 5, 6, 20, 21, 22]), (62255, [1, 5, 6, 20, 21, 22])]),
  (109, [(55, [0, 2, 22]), (111, [0, 2, 41]), (447, [0, 2, 53])]),
  (110, [(175, [1, 4, 5, 14]), (127, [5])]),
  (111, [(43, [0, 3, 6])]),
  (112, [(23, [0, 1, 6]), (455, [0, 1, 6, 7, 8])]),
  (118, [(175, [0, 1, 6, 19, 20]), (62255, [0, 1, 7, 8, 19, 20]), (521007, [0, 1, 6, 7, 8, 9, 19, 20])]),
  (127, [(13, [0, 15])]),
  (128, [(19, [0, 4]), (195, [0, 4, 20])]),
  (4, [(351, [0, 3, 6]), (25183, [0, 3, 6, 86]), (29279, [0, 3, 6, 144])]),
  (5, [(351, [1, 2, 3, 4]), (29279, [1, 2, 3, 4, 47])]),
  (10, [(23, [0, 5]), (263, [0, 5])]),
  (20, [(1011, [0, 3, 38]), (4083, [0, 3, 77])]),
  (21, [(61, [0, 2, 28]), (253, [0, 2, 45])]),
  (45, [(487, [0, 2, 3, 34]), (31, [0, 2, 3])]),
  (47, [(13, [0, 2, 42]), (61, [0, 2, 77]), (27, [0, 2, 103]), (30207, [0, 2, 7, 8, 9]), (62975, [0, 7, 8]), (32255, [0, 7, 10]), (2047, [0, 7])]),
  (48, [(55, [0, 2, 4, 60])]),
  (79, [(2, [0, 1]), (24, [0, 1, 26])]),
  (83, [(127, [0, 1, 6]), (255, [0, 1, 6])]),
  (84, [(7, [0, 12])]),
  (85, [(27, [0, 3, 18]), (119, [0, 3, 41]), (3767, [0, 3, 5, 51])]),
  (86, [(351, [4, 5, 6, 18])])]
def cut (k : Nat) (p : List Bool) : Option (List Nat) := (cutT.lookup k).bind fun l => l.lookup (p.foldl (fun n b => 2 * n + b.toNat) 1)
def appT : List (Nat × Nat × Nat × Nat) := [(63, 8, 8, 0), (97, 1, 3, 0), (100, 3, 3, 0), (64, 4, 3, 0), (67, 1, 6, 1), (99, 4, 2, 1), (48, 5, 20, 3), (10, 8, 8, 3), (47, 25, 7, 3), (21, 9, 15, 3), (45, 7, 9, 3), (83, 10, 10, 3), (5, 12, 0, 0)]
def app (k r i : Nat) : Nat := ((appT.find? fun x => x.1 == k && x.2.1 == r && x.2.2.1 == i).map (·.2.2.2)).getD 2
/-! ### What stands in the library's place -/
def unInts (k : IntKind) : List D → Option (List Int)
  | [] => some []
  | .i j n :: xs => if j = k then (unInts k xs).map (n :: ·) else none
  | _ => none
/-- A number's digits. -/
def decF : Nat → Nat → List UInt8
  | 0, n => [UInt8.ofNat (48 + n)]
  | k + 1, n => if n < 10 then [UInt8.ofNat (48 + n)] else decF k (n / 10) ++ [UInt8.ofNat (48 + n % 10)]
def decN (n : Nat) : List UInt8 := decF n n
theorem decF_eq : ∀ (k j n : Nat), n ≤ k → n ≤ j → decF k n = decF j n
  | 0, 0, _, _, _ => rfl
  | 0, j + 1, n, h, _ => by
    have : n = 0 := by omega
    subst this; rfl
  | k + 1, 0, n, _, h => by
    have : n = 0 := by omega
    subst this; rfl
  | k + 1, j + 1, n, h1, h2 => by
    rw [decF, decF]
    split
    · rfl
    · rw [decF_eq k j (n / 10) (by omega) (by omega)]
theorem decN_eq (n : Nat) : decN n = if n < 10 then [UInt8.ofNat (48 + n)] else decN (n / 10) ++ [UInt8.ofNat (48 + n % 10)] := by
  unfold decN
  cases n with
  | zero => rfl
  | succ k =>
    rw [decF]
    split
    · rfl
    · rw [decF_eq k ((k + 1) / 10) ((k + 1) / 10) (by omega) (by omega)]
def decI (n : Int) : List UInt8 := if n < 0 then 45 :: decN n.natAbs else decN n.toNat
def trimRightB (c : UInt8) (x : List UInt8) : List UInt8 := (x.reverse.dropWhile (· == c)).reverse
def blen (n : Nat) : Nat := if n = 0 then 0 else n.log2 + 1
def trimRightExt (args : List V) (S : List Ob) : Option Out :=
  match args with
  | [.d (.s x), .d (.s [c])] => if c.toNat < 128 ∧ x.length ≤ 1000000 then some (.d (.s (trimRightB c x)), S) else none
  | _ => none
def trimLeftExt (args : List V) (S : List Ob) : Option Out :=
  match args with
  | [.d (.s x), .d (.s [c])] => if c.toNat < 128 then some (.d (.s (x.dropWhile (· == c))), S) else none
  | [.d (.s x), .d (.s [43, 45])] => if x.length ≤ 100000 then some (.d (.s (x.dropWhile fun c => c == 43 || c == 45)), S) else none
  | _ => none
def itoaExt (args : List V) (S : List Ob) : Option Out :=
  match args with
  | [.d (.i .i64 n)] => if -1000000 < n ∧ n < 1000000 then some (.d (.s (decI n)), S) else none
  | _ => none
def fmtUintExt (args : List V) (S : List Ob) : Option Out :=
  match args with
  | [.d (.i .u64 n), .d (.i .i64 b)] => if b = 10 ∧ 0 ≤ n ∧ n < 18446744073709551616 then some (.d (.s (decN n.toNat)), S) else none
  | _ => none
def len32Ext (args : List V) (S : List Ob) : Option Out :=
  match args with
  | [.d (.i .u32 n)] => if 0 ≤ n ∧ n < 4294967296 then some (.d (.i .i64 (blen n.toNat : Nat)), S) else none
  | _ => none
def subR (x y : Nat) : V := if x < y then .t [.d (.l true []), .d (.b false)] else .t [.d (nl (x - y)), .d (.b true)]
def subExt (args : List V) (S : List Ob) : Option Out :=
  match args, S with
  | [.d (.l _ xs), .d (.l _ ys)], [] => match unInts .u32 xs, unInts .u32 ys with
    | some a, some b => if (a.all fun z => decide (0 ≤ z) && decide (z < 4294967296)) = true ∧ (b.all fun z => decide (0 ≤ z) && decide (z < 4294967296)) = true ∧ a.length ≤ 100000 ∧ b.length ≤ 100000 then some (subR (valL a) (valL b), []) else none
    | _, _ => none
  | _, _ => none
/-- Where a text begins in another. -/
def findSub (t : List UInt8) : List UInt8 → Option Nat
  | [] => if t.isPrefixOf [] = true then some 0 else none
  | c :: r => if t.isPrefixOf (c :: r) = true then some 0 else (findSub t r).map (· + 1)
def idxV (o : Option Nat) : Int := match o with | some n => (n : Int) | none => -1
def containsExt (args : List V) (S : List Ob) : Option Out :=
  match args with
  | [.d (.s x), .d (.s t)] => if x.length ≤ 100000 ∧ t.length ≤ 100000 then some (.d (.b (findSub t x).isSome), S) else none
  | _ => none
def indexExt (args : List V) (S : List Ob) : Option Out :=
  match args with
  | [.d (.s x), .d (.s t)] => if x.length ≤ 100000 ∧ t.length ≤ 100000 then some (.d (.i .i64 (idxV (findSub t x))), S) else none
  | _ => none
def indexByteExt (args : List V) (S : List Ob) : Option Out :=
  match args with
  | [.d (.s x), .d (.i .u8 c)] => if x.length ≤ 100000 ∧ 0 ≤ c ∧ c < 256 then some (.d (.i .i64 (idxV (x.findIdx? fun d => d == UInt8.ofNat c.toNat))), S) else none
  | _ => none
def suffixExt (args : List V) (S : List Ob) : Option Out :=
  match args with
  | [.d (.s x), .d (.s t)] => if x.length ≤ 100000 ∧ t.length ≤ 100000 then some (.d (.b (t.isSuffixOf x)), S) else none
  | _ => none
def hexVal (c : UInt8) : Nat := if c.toNat ≤ 57 then c.toNat - 48 else if 97 ≤ c.toNat then c.toNat - 87 else c.toNat - 55
def hexV (l : List UInt8) : Nat := l.foldl (fun a c => a * 16 + hexVal c) 0
def isHex (c : UInt8) : Bool := (decide (48 ≤ c.toNat) && decide (c.toNat ≤ 57)) || (decide (97 ≤ c.toNat) && decide (c.toNat ≤ 102)) || (decide (65 ≤ c.toNat) && decide (c.toNat ≤ 70))
def parseHexExt (args : List V) (S : List Ob) : Option Out :=
  match args with
  | [.d (.s x), .d (.i .i64 b), .d (.i .i64 z)] => if b = 16 ∧ z = 64 ∧ x ≠ [] ∧ x.length ≤ 16 ∧ x.all isHex = true then some (.t [.d (.i .u64 (hexV x : Nat)), .nifc], S) else none
  | _ => none
def ext (k : Nat) : Option (List V → List Ob → Option Out) :=
  match k with
  | 37 => some trimRightExt
  | 108 => some trimLeftExt
  | 38 => some itoaExt
  | 69 => some fmtUintExt
  | 65 => some len32Ext
  | 118 => some subExt
  | 27 => some containsExt
  | 56 => some indexExt
  | 40 => some indexByteExt
  | 81 => some suffixExt
  | 107 => some parseHexExt
  | _ => none
def flg (k r i : Nat) : Fl := if k = 10 then [(4, 5)] else []
def pol : Pol := { cut := cut, app := app, flg := flg, ext := ext }
end Go.Dn.Dec
namespace Go.Dn.Dec
def unCellsU : List V → Option (List Int)
  | [] => some []
  | .d (.i .u32 n) :: xs => (unCellsU xs).map (n :: ·)
  | _ => none
def okU (a : List Int) : Bool := (a.all fun z => decide (0 ≤ z) && decide (z < 4294967296)) && decide (a.length ≤ 100000)
def cellsU (a : List Int) : List V := a.map fun z => V.d (.i .u32 z)
def cutExtS (args : List V) (S : List Ob) : Option Out :=
  match args, S with
  | [.d (.l _ xs)], [] => match unInts .u32 xs with
    | some a => if okU a = true then some (.m 0 0 (limbs (valL a)).length, [.cells (cellsU (limbs (valL a))) []]) else none
    | none => none
  | [.m 0 0 n], [.cells cs []] => match unCellsU cs with
    | some a => if n = a.length ∧ okU a = true then some (.d (nl (valL a)), [.cells cs []]) else none
    | none => none
  | _, _ => none
def cmpExtS (args : List V) (S : List Ob) : Option Out :=
  match args, S with
  | [.m 0 0 n, .m 1 0 m], [.cells ds [], .cells cs []] => match unCellsU cs, unCellsU ds with
    | some a, some b => if n = a.length ∧ m = b.length ∧ okU a = true ∧ okU b = true then some (.d (.i .i64 (if valL a < valL b then -1 else if valL b < valL a then 1 else 0)), [.cells ds [], .cells cs []]) else none
    | _, _ => none
  | _, _ => none
def polA : Pol := { cut := cut, app := app, flg := fun _ _ _ => [], ext := fun _ => none }
def polC : Pol := { cut := cut, app := fun k _ _ => if k = 64 then 1 else 2, flg := fun _ _ _ => [], ext := fun _ => none }
def extS (k : Nat) : Option (List V → List Ob → Option Out) :=
  match k with
  | 64 => some cutExtS
  | 66 => some cmpExtS
  | _ => none
def polS : Pol := { cut := cut, app := app, flg := fun _ _ _ => [], ext := extS, fresh := fun k => k == 64 }
end Go.Dn.Dec
namespace Go.Dn.Dec
open Go.Proofs
theorem f51 (b : Bool) (xs : List D) :
    rk Tryd.prog pol (Task.call 64 [V.d (D.l b xs)] []) = interp (rk Tryd.prog pol) (
Tr.call (Task.at_ 64 0 [false, false, true, true] (sv 22 [(0, V.d (D.l b xs)), (3, V.d (D.i IntKind.i64 (↑xs.length : Int)))]) [] []) Tr.ret) :=
  rk_of (by kernel_rfl)
theorem f51m (n : Nat) (cs : List V) :
    rk Tryd.prog pol (Task.call 64 [V.m 0 0 n] [Ob.cells cs []]) = interp (rk Tryd.prog pol) (
Tr.call (Task.at_ 64 1 [false, false, true, true] (sv 22 [(0, V.m 0 0 n), (3, V.d (D.i IntKind.i64 (↑n : Int)))]) [] [Ob.cells cs []]) Tr.ret) :=
  rk_of (by kernel_rfl)
theorem f23 (n : Int) :
    rk Tryd.prog pol (Task.call 62 [V.d (D.i IntKind.u64 n)] []) = interp (rk Tryd.prog pol) (
Tr.call (Task.call 64 [V.d (D.l true [D.i IntKind.u32 (IntKind.u32.wrap n), D.i IntKind.u32 (IntKind.u32.wrap (n.fdiv 4294967296))])] []) fun (o_0 : Out) =>
  ift o_0.snd.isEmpty (asD o_0.fst fun (d_1 : D) => asL d_1 fun (b_2 : Bool) (l_3 : List D) => Tr.ret (V.d (D.l b_2 l_3), []))) :=
  rk_of (by kernel_rfl)
theorem f25 (n : Int) :
    rk Tryd.prog pol (Task.call 68 [V.d (D.i IntKind.i64 n)] []) = interp (rk Tryd.prog pol) (
brB (decide (n < 0)) (Tr.call (Task.at_ 68 0 [true, false, true] (sv 18 [(0, V.d (D.i IntKind.i64 n)), (9, V.d (D.b true))]) [] []) Tr.ret)
  (Tr.call (Task.at_ 68 0 [true, false, true] (sv 18 [(0, V.d (D.i IntKind.i64 n)), (9, V.d (D.b (decide (n > 1000))))]) [] []) Tr.ret)) :=
  rk_of (by kernel_rfl)
theorem f52 (b : Bool) (xs : List D) (n : Int) :
    rk Tryd.prog pol (Task.call 97 [V.d (D.l b xs), V.d (D.i IntKind.u32 n)] []) = interp (rk Tryd.prog pol) (
ift (decide (0 ≤ IntKind.i64.wrap ((↑xs.length : Int) + 1)))
  (ift (decide (IntKind.i64.wrap ((↑xs.length : Int) + 1) ≤ 4294967296))
    (Tr.call
      (Task.at_ 97 0 [false, true, false, true, true, true]
        (sv 40
          [(1, V.d (D.i IntKind.u32 n)), (5, V.d (D.l false [])), (6, V.d (D.i IntKind.u64 0)), (13, V.d (D.l b xs)), (14, V.d (D.i IntKind.i64 (↑xs.length : Int))), (15, V.d (D.i IntKind.i64 0))])
        [(5, 1)] [])
      Tr.ret))) :=
  rk_of (by kernel_rfl)
theorem f24 (b : Bool) (xs : List D) (c : Bool) (ys : List D) :
    rk Tryd.prog pol (Task.call 67 [V.d (D.l b xs), V.d (D.l c ys)] []) = interp (rk Tryd.prog pol) (
ift (decide (0 ≤ IntKind.i64.wrap (IntKind.i64.wrap ((↑xs.length : Int) + (↑ys.length : Int)) + 1)))
  (ift (decide (IntKind.i64.wrap (IntKind.i64.wrap ((↑xs.length : Int) + (↑ys.length : Int)) + 1) = IntKind.i64.wrap (IntKind.i64.wrap ((↑xs.length : Int) + (↑ys.length : Int)) + 1)))
    (ift (decide (IntKind.i64.wrap (IntKind.i64.wrap ((↑xs.length : Int) + (↑ys.length : Int)) + 1) ≤ 4294967296))
      (Tr.call
        (Task.at_ 67 0 [false, true, false, true, true]
          (sv 68
            [(1, V.d (D.l c ys)), (5, V.m 0 0 (IntKind.i64.wrap (IntKind.i64.wrap ((↑xs.length : Int) + (↑ys.length : Int)) + 1)).toNat), (18, V.d (D.l b xs)),
              (19, V.d (D.i IntKind.i64 (↑xs.length : Int))), (20, V.d (D.i IntKind.i64 0))])
          [] [Ob.cells (List.replicate (IntKind.i64.wrap (IntKind.i64.wrap ((↑xs.length : Int) + (↑ys.length : Int)) + 1)).toNat (V.d (D.i IntKind.u32 0))) []])
        Tr.ret)))) :=
  rk_of (by kernel_rfl)
theorem f50 (b : Bool) (xs : List D) (c : Bool) (ys : List D) :
    rk Tryd.prog pol (Task.call 100 [V.d (D.l b xs), V.d (D.l c ys)] []) = interp (rk Tryd.prog pol) (
brB (decide ((↑xs.length : Int) < (↑ys.length : Int))) (Tr.call (Task.at_ 100 0 [true, true] (sv 56 [(0, V.d (D.l c ys)), (1, V.d (D.l b xs))]) [] []) Tr.ret)
  (Tr.call (Task.at_ 100 0 [true, true] (sv 56 [(0, V.d (D.l b xs)), (1, V.d (D.l c ys))]) [] []) Tr.ret)) :=
  rk_of (by kernel_rfl)
theorem f53 (b : Bool) (xs : List D) (n : Int) :
    rk Tryd.prog pol (Task.call 63 [V.d (D.l b xs), V.d (D.i IntKind.i64 n)] []) = interp (rk Tryd.prog pol) (
Tr.call (Task.call 64 [V.d (D.l b xs)] []) fun (o_0 : Out) =>
  ift o_0.snd.isEmpty
    (asD o_0.fst fun (d_1 : D) =>
      asL d_1 fun (b_2 : Bool) (l_3 : List D) =>
        brB (decide (n < IntKind.i64.wrap (-32 * IntKind.i64.wrap ((↑l_3.length : Int) + 1)))) (Tr.ret (V.d (D.l true []), []))
          (brB (decide (n < 0))
            (Tr.call (Task.call 96 [V.d (D.l b_2 l_3), V.d (D.i IntKind.i64 (IntKind.i64.wrap (0 - n)))] []) fun (o_4 : Out) =>
              ift o_4.snd.isEmpty (asD o_4.fst fun (d_5 : D) => asL d_5 fun (b_6 : Bool) (l_7 : List D) => Tr.ret (V.d (D.l b_6 l_7), [])))
            (brB ((↑l_3.length : Int) == 0) (Tr.ret (V.d (D.l true []), []))
              (ift (decide (0 ≤ IntKind.i64.wrap (n.tdiv 32)))
                (ift (decide (IntKind.i64.wrap (n.tdiv 32) ≤ IntKind.i64.wrap (IntKind.i64.wrap (IntKind.i64.wrap (n.tdiv 32) + (↑l_3.length : Int)) + 1)))
                  (ift (decide (IntKind.i64.wrap (IntKind.i64.wrap (IntKind.i64.wrap (n.tdiv 32) + (↑l_3.length : Int)) + 1) ≤ 4294967296))
                    (Tr.call
                      (Task.at_ 63 0 [false, true, false, true, true, true, true, true]
                        (sv 65
                          [(1, V.d (D.i IntKind.i64 n)), (5, V.d (D.l false (List.replicate (IntKind.i64.wrap (n.tdiv 32)).toNat (D.i IntKind.u32 0)))), (6, V.d (D.i IntKind.u64 0)),
                            (38, V.d (D.l b_2 l_3)), (39, V.d (D.i IntKind.i64 (↑l_3.length : Int))), (40, V.d (D.i IntKind.i64 0))])
                        [(5, 1)] [])
                      Tr.ret)))))))) :=
  rk_of (by kernel_rfl)
theorem f74 (b : Bool) (xs : List D) (c : Bool) (ys : List D) :
    rk Tryd.prog pol (Task.call 99 [V.d (D.l b xs), V.d (D.l c ys)] []) = interp (rk Tryd.prog pol) (
Tr.call (Task.call 64 [V.d (D.l b xs)] []) fun (o_0 : Out) =>
  ift o_0.snd.isEmpty
    (asD o_0.fst fun (d_1 : D) =>
      asL d_1 fun (b_2 : Bool) (l_3 : List D) =>
        Tr.call (Task.call 64 [V.d (D.l c ys)] []) fun (o_4 : Out) =>
          ift o_4.snd.isEmpty
            (asD o_4.fst fun (d_5 : D) =>
              asL d_5 fun (b_6 : Bool) (l_7 : List D) =>
                brB ((↑l_7.length : Int) == 0) (Tr.ret (V.t [V.d (D.l true []), V.d (D.l true []), V.d (D.b false)], []))
                  (ift (decide ((↑l_3.length : Int) = (↑l_3.length : Int)))
                    (ift (decide ((↑l_3.length : Int) ≤ 4294967296))
                      (Tr.call (Task.call 33 [V.d (D.l b_2 l_3)] []) fun (o_8 : Out) =>
                        ift o_8.snd.isEmpty
                          (asD o_8.fst fun (d_9 : D) =>
                            asI IntKind.i64 d_9 fun (n_10 : Int) =>
                              Tr.call
                                (Task.at_ 99 0 [false, true, false, true, true, true, true]
                                  (sv 64
                                    [(0, V.d (D.l b_2 l_3)), (1, V.d (D.l b_6 l_7)), (4, V.m 0 0 (↑l_3.length : Int).toNat), (5, V.d (D.l true [])),
                                      (7, V.d (D.i IntKind.i64 (IntKind.i64.wrap (n_10 - 1))))])
                                  [(5, 1)] [Ob.cells (List.replicate (↑l_3.length : Int).toNat (V.d (D.i IntKind.u32 0))) []])
                                Tr.ret))))))) :=
  rk_of (by kernel_rfl)
theorem f34 (b : Bool) (xs : List D) :
    rk Tryd.prog pol (Task.call 33 [V.d (D.l b xs)] []) = interp (rk Tryd.prog pol) (
Tr.call (Task.call 64 [V.d (D.l b xs)] []) fun (o_0 : Out) =>
  ift o_0.snd.isEmpty
    (asD o_0.fst fun (d_1 : D) =>
      asL d_1 fun (b_2 : Bool) (l_3 : List D) =>
        brB ((↑l_3.length : Int) == 0) (Tr.ret (V.d (D.i IntKind.i64 0), []))
          (ob (getI l_3 (IntKind.i64.wrap ((↑l_3.length : Int) - 1))) fun (d_4 : D) =>
            ift (d_4.width == 1)
              (ob l_3[(IntKind.i64.wrap ((↑l_3.length : Int) - 1)).toNat]? fun (d_5 : D) =>
                ob d_5.cells[0]? fun (d_6 : D) =>
                  asI IntKind.u32 d_6 fun (n_7 : Int) =>
                    Tr.call (Task.call 65 [V.d (D.i IntKind.u32 n_7)] []) fun (o_8 : Out) =>
                      ift o_8.snd.isEmpty
                        (asD o_8.fst fun (d_9 : D) =>
                          asI IntKind.i64 d_9 fun (n_10 : Int) => Tr.ret (V.d (D.i IntKind.i64 (IntKind.i64.wrap (IntKind.i64.wrap (32 * IntKind.i64.wrap ((↑l_3.length : Int) - 1)) + n_10))), [])))))) :=
  rk_of (by kernel_rfl)
theorem f62 (b : Bool) (xs : List D) (c : Bool) (ys : List D) :
    rk Tryd.prog pol (Task.call 66 [V.d (D.l b xs), V.d (D.l c ys)] []) = interp (rk Tryd.prog pol) (
Tr.call (Task.call 64 [V.d (D.l b xs)] []) fun (o_0 : Out) =>
  ift o_0.snd.isEmpty
    (asD o_0.fst fun (d_1 : D) =>
      asL d_1 fun (b_2 : Bool) (l_3 : List D) =>
        Tr.call (Task.call 64 [V.d (D.l c ys)] []) fun (o_4 : Out) =>
          ift o_4.snd.isEmpty
            (asD o_4.fst fun (d_5 : D) =>
              asL d_5 fun (b_6 : Bool) (l_7 : List D) =>
                brB (decide ((↑l_3.length : Int) < (↑l_7.length : Int))) (Tr.ret (V.d (D.i IntKind.i64 (-1)), []))
                  (brB (decide ((↑l_3.length : Int) > (↑l_7.length : Int))) (Tr.ret (V.d (D.i IntKind.i64 1), []))
                    (Tr.call
                      (Task.at_ 66 0 [false, true, false, true, true, true]
                        (sv 49 [(0, V.d (D.l b_2 l_3)), (1, V.d (D.l b_6 l_7)), (5, V.d (D.i IntKind.i64 (IntKind.i64.wrap ((↑l_3.length : Int) - 1))))]) [] [])
                      Tr.ret))))) :=
  rk_of (by kernel_rfl)
theorem f56 (b : Bool) (xs : List D) :
    rk Tryd.prog pol (Task.call 70 [V.d (D.l b xs)] []) = interp (rk Tryd.prog pol) (
Tr.call
  (Task.at_ 70 0 [false, true, false, true, true]
    (sv 23 [(0, V.d (D.l b xs)), (3, V.d (D.i IntKind.u64 0)), (7, V.d (D.i IntKind.i64 (if 2 < (↑xs.length : Int) then 2 else (↑xs.length : Int)))), (8, V.d (D.i IntKind.i64 0))]) [] [])
  Tr.ret) :=
  rk_of (by kernel_rfl)
theorem f51_at19 (b_0 : Bool) (l_1 : List D) (n_2 : Int) :
    rk Tryd.prog pol (Task.at_ 64 0 [false, false, true, true] (sv 22 [(0, V.d (D.l b_0 l_1)), (3, V.d (D.i IntKind.i64 n_2))]) [] []) = interp (rk Tryd.prog pol) (
brB (decide (n_2 > 0))
  (ob (getI l_1 (IntKind.i64.wrap (n_2 - 1))) fun (d_0 : D) =>
    ift (d_0.width == 1)
      (ob l_1[(IntKind.i64.wrap (n_2 - 1)).toNat]? fun (d_1 : D) =>
        ob d_1.cells[0]? fun (d_2 : D) =>
          asI IntKind.u32 d_2 fun (n_3 : Int) =>
            Tr.call (Task.at_ 64 0 [true, false, false, false, false, true, true] (sv 22 [(0, V.d (D.l b_0 l_1)), (3, V.d (D.i IntKind.i64 n_2)), (15, V.d (D.b (n_3 == 0)))]) [] []) Tr.ret))
  (Tr.call (Task.at_ 64 0 [true, false, false, false, false, true, true] (sv 22 [(0, V.d (D.l b_0 l_1)), (3, V.d (D.i IntKind.i64 n_2)), (15, V.d (D.b false))]) [] []) Tr.ret)) :=
  rk_of (by kernel_rfl)
theorem f51_at19_1 (m_0 : Nat) (n_1 : Int) (l_2 : List V) :
    rk Tryd.prog pol (Task.at_ 64 1 [false, false, true, true] (sv 22 [(0, V.m 0 0 m_0), (3, V.d (D.i IntKind.i64 n_1))]) [] [Ob.cells l_2 []]) = interp (rk Tryd.prog pol) (
brB (decide (n_1 > 0))
  (ift (decide (0 ≤ IntKind.i64.wrap (n_1 - 1) ∧ IntKind.i64.wrap (n_1 - 1) < (↑m_0 : Int)))
    (ob l_2[0 + (IntKind.i64.wrap (n_1 - 1)).toNat]? fun (v_0 : V) =>
      asD v_0 fun (d_1 : D) =>
        asI IntKind.u32 d_1 fun (n_2 : Int) =>
          Tr.call (Task.at_ 64 1 [true, false, false, false, false, true, true] (sv 22 [(0, V.m 0 0 m_0), (3, V.d (D.i IntKind.i64 n_1)), (15, V.d (D.b (n_2 == 0)))]) [] [Ob.cells l_2 []]) Tr.ret))
  (Tr.call (Task.at_ 64 1 [true, false, false, false, false, true, true] (sv 22 [(0, V.m 0 0 m_0), (3, V.d (D.i IntKind.i64 n_1)), (15, V.d (D.b false))]) [] [Ob.cells l_2 []]) Tr.ret)) :=
  rk_of (by kernel_rfl)
theorem f25_at13 (n_0 : Int) (b_1 : Bool) :
    rk Tryd.prog pol (Task.at_ 68 0 [true, false, true] (sv 18 [(0, V.d (D.i IntKind.i64 n_0)), (9, V.d (D.b b_1))]) [] []) = interp (rk Tryd.prog pol) (
brB b_1 (Tr.ret (V.d (D.l true []), []))
  (Tr.call (Task.call 62 [V.d (D.i IntKind.u64 1)] []) fun (o_0 : Out) =>
    ift o_0.snd.isEmpty
      (asD o_0.fst fun (d_1 : D) =>
        asL d_1 fun (b_2 : Bool) (l_3 : List D) => Tr.call (Task.at_ 68 0 [false, false, true, true, true] (sv 18 [(0, V.d (D.i IntKind.i64 n_0)), (3, V.d (D.l b_2 l_3))]) [] []) Tr.ret))) :=
  rk_of (by kernel_rfl)
theorem f52_at87 (n_0 : Int) (b_1 : Bool) (l_2 : List D) (n_3 : Int) (b_4 : Bool) (l_5 : List D) (n_6 : Int) (n_7 : Int) :
    rk Tryd.prog pol (Task.at_ 97 0 [false, true, false, true, true, true]
  (sv 40 [(1, V.d (D.i IntKind.u32 n_0)), (5, V.d (D.l b_1 l_2)), (6, V.d (D.i IntKind.u64 n_3)), (13, V.d (D.l b_4 l_5)), (14, V.d (D.i IntKind.i64 n_6)), (15, V.d (D.i IntKind.i64 n_7))]) [(5, 1)]
  []) = interp (rk Tryd.prog pol) (
brB (decide (n_7 < n_6))
  (ob (getI l_5 n_7) fun (d_0 : D) =>
    ift (d_0.width == 1)
      (ob l_5[n_7.toNat]? fun (d_1 : D) =>
        ob d_1.cells[0]? fun (d_2 : D) =>
          asI IntKind.u32 d_2 fun (n_3_1 : Int) =>
            ift (headOk 1 l_2)
              (ift (b_1 || true)
                (ift (decide (l_2.length + 1 ≤ 4294967296))
                  (Tr.call
                    (Task.at_ 97 0 [false, true, false, true, true, true]
                      (sv 40
                        [(1, V.d (D.i IntKind.u32 n_0)),
                          (5, V.d (D.l (b_1 && false) (l_2 ++ [D.i IntKind.u32 (IntKind.u32.wrap (IntKind.u64.wrap (n_3 + IntKind.u64.wrap (IntKind.u64.wrap n_3_1 * IntKind.u64.wrap n_0))))]))),
                          (6, V.d (D.i IntKind.u64 ((IntKind.u64.wrap (n_3 + IntKind.u64.wrap (IntKind.u64.wrap n_3_1 * IntKind.u64.wrap n_0))).fdiv 4294967296))), (13, V.d (D.l b_4 l_5)),
                          (14, V.d (D.i IntKind.i64 n_6)), (15, V.d (D.i IntKind.i64 (IntKind.i64.wrap (n_7 + 1))))])
                      [(5, 1)] [])
                    Tr.ret)))))
  (ift (headOk 1 l_2)
    (ift (b_1 || true)
      (ift (decide (l_2.length + 1 ≤ 4294967296))
        (Tr.call (Task.call 64 [V.d (D.l (b_1 && false) (l_2 ++ [D.i IntKind.u32 (IntKind.u32.wrap n_3)]))] []) fun (o_4 : Out) =>
          ift o_4.snd.isEmpty (asD o_4.fst fun (d_5 : D) => asL d_5 fun (b_6 : Bool) (l_7 : List D) => Tr.ret (V.d (D.l b_6 l_7), []))))))) :=
  rk_of (by kernel_rfl)
theorem f24_at43 (b_0 : Bool) (l_1 : List D) (m_2 : Nat) (b_3 : Bool) (l_4 : List D) (n_5 : Int) (n_6 : Int) (l_7 : List V) :
    rk Tryd.prog pol (Task.at_ 67 0 [false, true, false, true, true] (sv 68 [(1, V.d (D.l b_0 l_1)), (5, V.m 0 0 m_2), (18, V.d (D.l b_3 l_4)), (19, V.d (D.i IntKind.i64 n_5)), (20, V.d (D.i IntKind.i64 n_6))]) []
  [Ob.cells l_7 []]) = interp (rk Tryd.prog pol) (
brB (decide (n_6 < n_5))
  (ob (getI l_4 n_6) fun (d_0 : D) =>
    ift (d_0.width == 1)
      (ob l_4[n_6.toNat]? fun (d_1 : D) =>
        ob d_1.cells[0]? fun (d_2 : D) =>
          asI IntKind.u32 d_2 fun (n_3 : Int) =>
            Tr.call
              (Task.at_ 67 0 [false, true, false, true, true, false, false, true, true, false, false, true, false, true, true]
                (sv 68
                  [(1, V.d (D.l b_0 l_1)), (5, V.m 0 0 m_2), (6, V.d (D.i IntKind.i64 n_6)), (7, V.d (D.i IntKind.u32 n_3)), (8, V.d (D.i IntKind.u64 0)), (18, V.d (D.l b_3 l_4)),
                    (19, V.d (D.i IntKind.i64 n_5)), (20, V.d (D.i IntKind.i64 n_6)), (25, V.d (D.l b_0 l_1)), (26, V.d (D.i IntKind.i64 (↑l_1.length : Int))), (27, V.d (D.i IntKind.i64 0))])
                [] [Ob.cells l_7 []])
              Tr.ret))
  (Tr.call (Task.call 64 [V.m 0 0 m_2] [Ob.cells l_7 []]) fun (o_4 : Out) =>
    unCons o_4.snd fun (x_5 : Ob) (l_6 : List Ob) =>
      unCells x_5 fun (l_7_1 : List V) (l_8 : Fl) =>
        ift (l_7_1.length == l_7.length) (ift (l_8 == []) (unNil l_6 (asD o_4.fst fun (d_9 : D) => asL d_9 fun (b_10 : Bool) (l_11 : List D) => Tr.ret (V.d (D.l b_10 l_11), [])))))) :=
  rk_of (by kernel_rfl)
theorem f50_at7 (b_0 : Bool) (l_1 : List D) (b_2 : Bool) (l_3 : List D) :
    rk Tryd.prog pol (Task.at_ 100 0 [true, true] (sv 56 [(0, V.d (D.l b_0 l_1)), (1, V.d (D.l b_2 l_3))]) [] []) = interp (rk Tryd.prog pol) (
ift (decide (0 ≤ IntKind.i64.wrap ((↑l_1.length : Int) + 1)))
  (ift (decide (IntKind.i64.wrap ((↑l_1.length : Int) + 1) ≤ 4294967296))
    (Tr.call
      (Task.at_ 100 0 [false, true, false, true, true, true, true]
        (sv 56 [(1, V.d (D.l b_2 l_3)), (5, V.d (D.l false [])), (6, V.d (D.i IntKind.u64 0)), (20, V.d (D.l b_0 l_1)), (21, V.d (D.i IntKind.i64 (↑l_1.length : Int))), (22, V.d (D.i IntKind.i64 0))])
        [(5, 1)] [])
      Tr.ret))) :=
  rk_of (by kernel_rfl)
theorem f53_at351 (n_0 : Int) (b_1 : Bool) (l_2 : List D) (n_3 : Int) (b_4 : Bool) (l_5 : List D) (n_6 : Int) (n_7 : Int) :
    rk Tryd.prog pol (Task.at_ 63 0 [false, true, false, true, true, true, true, true]
  (sv 65 [(1, V.d (D.i IntKind.i64 n_0)), (5, V.d (D.l b_1 l_2)), (6, V.d (D.i IntKind.u64 n_3)), (38, V.d (D.l b_4 l_5)), (39, V.d (D.i IntKind.i64 n_6)), (40, V.d (D.i IntKind.i64 n_7))]) [(5, 1)]
  []) = interp (rk Tryd.prog pol) (
brB (decide (n_7 < n_6))
  (ob (getI l_5 n_7) fun (d_0 : D) =>
    ift (d_0.width == 1)
      (ob l_5[n_7.toNat]? fun (d_1 : D) =>
        ob d_1.cells[0]? fun (d_2 : D) =>
          asI IntKind.u32 d_2 fun (n_3_1 : Int) =>
            ift (decide (0 ≤ n_0.tmod 32))
              (ift (headOk 1 l_2)
                (ift (b_1 || true)
                  (ift (decide (l_2.length + 1 ≤ 4294967296))
                    (Tr.call
                      (Task.at_ 63 0 [false, true, false, true, true, true, true, true]
                        (sv 65
                          [(1, V.d (D.i IntKind.i64 n_0)),
                            (5,
                              V.d
                                (D.l (b_1 && false)
                                  (l_2 ++
                                    [D.i IntKind.u32
                                        (IntKind.u32.wrap
                                          (IntKind.u64.wrap
                                            (↑(BitVec.ofInt IntKind.u64.bits n_3 ||| BitVec.ofInt IntKind.u64.bits (IntKind.u64.wrap (IntKind.u64.wrap n_3_1 * 2 ^ min (n_0.tmod 32).toNat 64))).toNat :
                                              Int)))]))),
                            (6,
                              V.d
                                (D.i IntKind.u64
                                  ((IntKind.u64.wrap
                                        (↑(BitVec.ofInt IntKind.u64.bits n_3 ||| BitVec.ofInt IntKind.u64.bits (IntKind.u64.wrap (IntKind.u64.wrap n_3_1 * 2 ^ min (n_0.tmod 32).toNat 64))).toNat :
                                          Int)).fdiv
                                    4294967296))),
                            (38, V.d (D.l b_4 l_5)), (39, V.d (D.i IntKind.i64 n_6)), (40, V.d (D.i IntKind.i64 (IntKind.i64.wrap (n_7 + 1))))])
                        [(5, 1)] [])
                      Tr.ret))))))
  (ift (headOk 1 l_2)
    (ift (b_1 || true)
      (ift (decide (l_2.length + 1 ≤ 4294967296))
        (Tr.call (Task.call 64 [V.d (D.l (b_1 && false) (l_2 ++ [D.i IntKind.u32 (IntKind.u32.wrap n_3)]))] []) fun (o_4 : Out) =>
          ift o_4.snd.isEmpty (asD o_4.fst fun (d_5 : D) => asL d_5 fun (b_6 : Bool) (l_7 : List D) => Tr.ret (V.d (D.l b_6 l_7), []))))))) :=
  rk_of (by kernel_rfl)
theorem f74_at175 (b_0 : Bool) (l_1 : List D) (b_2 : Bool) (l_3 : List D) (m_4 : Nat) (b_5 : Bool) (l_6 : List D) (n_7 : Int) (l_8 : List V) :
    rk Tryd.prog pol (Task.at_ 99 0 [false, true, false, true, true, true, true] (sv 64 [(0, V.d (D.l b_0 l_1)), (1, V.d (D.l b_2 l_3)), (4, V.m 0 0 m_4), (5, V.d (D.l b_5 l_6)), (7, V.d (D.i IntKind.i64 n_7))]) [(5, 1)]
  [Ob.cells l_8 []]) = interp (rk Tryd.prog pol) (
brB (decide (n_7 ≥ 0))
  (Tr.call (Task.call 63 [V.d (D.l b_5 l_6), V.d (D.i IntKind.i64 1)] []) fun (o_0 : Out) =>
    ift o_0.snd.isEmpty
      (asD o_0.fst fun (d_1 : D) =>
        asL d_1 fun (b_2_1 : Bool) (l_3_1 : List D) =>
          ob (getI l_1 (IntKind.i64.wrap (n_7.tdiv 32))) fun (d_4 : D) =>
            ift (d_4.width == 1)
              (ob l_1[(IntKind.i64.wrap (n_7.tdiv 32)).toNat]? fun (d_5 : D) =>
                ob d_5.cells[0]? fun (d_6 : D) =>
                  asI IntKind.u32 d_6 fun (n_7_1 : Int) =>
                    ift (decide (0 ≤ n_7.tmod 32))
                      (brB (IntKind.u32.wrap (↑(BitVec.ofInt IntKind.u32.bits (n_7_1.fdiv (2 ^ min (n_7.tmod 32).toNat 32)) &&& BitVec.ofInt IntKind.u32.bits 1).toNat : Int) != 0)
                        (Tr.call (Task.call 62 [V.d (D.i IntKind.u64 1)] []) fun (o_8 : Out) =>
                          ift o_8.snd.isEmpty
                            (asD o_8.fst fun (d_9 : D) =>
                              asL d_9 fun (b_10 : Bool) (l_11 : List D) =>
                                Tr.call (Task.call 100 [V.d (D.l b_2_1 l_3_1), V.d (D.l b_10 l_11)] []) fun (o_12 : Out) =>
                                  ift o_12.snd.isEmpty
                                    (asD o_12.fst fun (d_13 : D) =>
                                      asL d_13 fun (b_14 : Bool) (l_15 : List D) =>
                                        Tr.call
                                          (Task.at_ 99 0 [true, true, false, false, true, false, false, true, false, true, true, true, true]
                                            (sv 64 [(0, V.d (D.l b_0 l_1)), (1, V.d (D.l b_2 l_3)), (4, V.m 0 0 m_4), (5, V.d (D.l b_14 l_15)), (7, V.d (D.i IntKind.i64 n_7))]) [] [Ob.cells l_8 []])
                                          Tr.ret)))
                        (Tr.call
                          (Task.at_ 99 0 [true, true, false, false, true, false, false, true, false, true, true, true, true]
                            (sv 64 [(0, V.d (D.l b_0 l_1)), (1, V.d (D.l b_2 l_3)), (4, V.m 0 0 m_4), (5, V.d (D.l b_2_1 l_3_1)), (7, V.d (D.i IntKind.i64 n_7))]) [] [Ob.cells l_8 []])
                          Tr.ret)))))
  (Tr.call (Task.call 64 [V.m 0 0 m_4] [Ob.cells l_8 []]) fun (o_16 : Out) =>
    unCons o_16.snd fun (x_17 : Ob) (l_18 : List Ob) =>
      unCells x_17 fun (l_19 : List V) (l_20 : Fl) =>
        ift (l_19.length == l_8.length)
          (ift (l_20 == [])
            (unNil l_18
              (asD o_16.fst fun (d_21 : D) =>
                asL d_21 fun (b_22 : Bool) (l_23 : List D) =>
                  Tr.call (Task.call 64 [V.d (D.l b_5 l_6)] []) fun (o_24 : Out) =>
                    ift o_24.snd.isEmpty (asD o_24.fst fun (d_25 : D) => asL d_25 fun (b_26 : Bool) (l_27 : List D) => Tr.ret (V.t [V.d (D.l b_22 l_23), V.d (D.l b_26 l_27), V.d (D.b true)], []))))))) :=
  rk_of (by kernel_rfl)
theorem f62_at87 (b_0 : Bool) (l_1 : List D) (b_2 : Bool) (l_3 : List D) (n_4 : Int) :
    rk Tryd.prog pol (Task.at_ 66 0 [false, true, false, true, true, true] (sv 49 [(0, V.d (D.l b_0 l_1)), (1, V.d (D.l b_2 l_3)), (5, V.d (D.i IntKind.i64 n_4))]) [] []) = interp (rk Tryd.prog pol) (
brB (decide (n_4 ≥ 0))
  (ob (getI l_1 n_4) fun (d_0 : D) =>
    ift (d_0.width == 1)
      (ob l_1[n_4.toNat]? fun (d_1 : D) =>
        ob d_1.cells[0]? fun (d_2 : D) =>
          asI IntKind.u32 d_2 fun (n_3 : Int) =>
            ob (getI l_3 n_4) fun (d_4 : D) =>
              ift (d_4.width == 1)
                (ob l_3[n_4.toNat]? fun (d_5 : D) =>
                  ob d_5.cells[0]? fun (d_6 : D) =>
                    asI IntKind.u32 d_6 fun (n_7 : Int) =>
                      brB (decide (n_3 < n_7)) (Tr.ret (V.d (D.i IntKind.i64 (-1)), []))
                        (ob (getI l_1 n_4) fun (d_8 : D) =>
                          ift (d_8.width == 1)
                            (ob l_1[n_4.toNat]? fun (d_9 : D) =>
                              ob d_9.cells[0]? fun (d_10 : D) =>
                                asI IntKind.u32 d_10 fun (n_11 : Int) =>
                                  ob (getI l_3 n_4) fun (d_12 : D) =>
                                    ift (d_12.width == 1)
                                      (ob l_3[n_4.toNat]? fun (d_13 : D) =>
                                        ob d_13.cells[0]? fun (d_14 : D) =>
                                          asI IntKind.u32 d_14 fun (n_15 : Int) =>
                                            brB (decide (n_11 > n_15)) (Tr.ret (V.d (D.i IntKind.i64 1), []))
                                              (Tr.call
                                                (Task.at_ 66 0 [false, true, false, true, true, true]
                                                  (sv 49 [(0, V.d (D.l b_0 l_1)), (1, V.d (D.l b_2 l_3)), (5, V.d (D.i IntKind.i64 (IntKind.i64.wrap (n_4 - 1))))]) [] [])
                                                Tr.ret)))))))
  (Tr.ret (V.d (D.i IntKind.i64 0), []))) :=
  rk_of (by kernel_rfl)
theorem f56_at43 (b_0 : Bool) (l_1 : List D) (n_2 : Int) (n_3 : Int) (n_4 : Int) :
    rk Tryd.prog pol (Task.at_ 70 0 [false, true, false, true, true] (sv 23 [(0, V.d (D.l b_0 l_1)), (3, V.d (D.i IntKind.u64 n_2)), (7, V.d (D.i IntKind.i64 n_3)), (8, V.d (D.i IntKind.i64 n_4))]) [] []) = interp (rk Tryd.prog pol) (
brB (decide (n_4 < n_3))
  (ob (getI l_1 n_4) fun (d_0 : D) =>
    ift (d_0.width == 1)
      (ob l_1[n_4.toNat]? fun (d_1 : D) =>
        ob d_1.cells[0]? fun (d_2 : D) =>
          asI IntKind.u32 d_2 fun (n_3_1 : Int) =>
            ift (decide (0 ≤ IntKind.i64.wrap (32 * n_4)))
              (Tr.call
                (Task.at_ 70 0 [false, true, false, true, true]
                  (sv 23
                    [(0, V.d (D.l b_0 l_1)),
                      (3,
                        V.d
                          (D.i IntKind.u64
                            (IntKind.u64.wrap
                              (↑(BitVec.ofInt IntKind.u64.bits n_2 |||
                                      BitVec.ofInt IntKind.u64.bits (IntKind.u64.wrap (IntKind.u64.wrap n_3_1 * 2 ^ min (IntKind.i64.wrap (32 * n_4)).toNat 64))).toNat :
                                Int)))),
                      (7, V.d (D.i IntKind.i64 n_3)), (8, V.d (D.i IntKind.i64 (IntKind.i64.wrap (n_4 + 1))))])
                  [] [])
                Tr.ret)))
  (Tr.ret (V.d (D.i IntKind.u64 n_2), []))) :=
  rk_of (by kernel_rfl)
theorem f51_at195 (b_0 : Bool) (l_1 : List D) (n_2 : Int) (b_3 : Bool) :
    rk Tryd.prog pol (Task.at_ 64 0 [true, false, false, false, false, true, true] (sv 22 [(0, V.d (D.l b_0 l_1)), (3, V.d (D.i IntKind.i64 n_2)), (15, V.d (D.b b_3))]) [] []) = interp (rk Tryd.prog pol) (
brB b_3 (Tr.call (Task.at_ 64 0 [false, false, true, true] (sv 22 [(0, V.d (D.l b_0 l_1)), (3, V.d (D.i IntKind.i64 (IntKind.i64.wrap (n_2 - 1))))]) [] []) Tr.ret)
  (ift (decide (0 ≤ n_2 ∧ n_2 ≤ (↑l_1.length : Int)))
    (ift (headOk 1 l_1)
      (ift (headOk 1 (List.take (n_2.toNat - 0) (List.drop 0 l_1)))
        (ift (decide (0 + (List.take (n_2.toNat - 0) (List.drop 0 l_1)).length ≤ 4294967296))
          (Tr.ret (V.d (D.l (List.take (n_2.toNat - 0) (List.drop 0 l_1)).isEmpty ([] ++ List.take (n_2.toNat - 0) (List.drop 0 l_1))), []))))))) :=
  rk_of (by kernel_rfl)
theorem f51_at195_1 (m_0 : Nat) (n_1 : Int) (b_2 : Bool) (l_3 : List V) :
    rk Tryd.prog pol (Task.at_ 64 1 [true, false, false, false, false, true, true] (sv 22 [(0, V.m 0 0 m_0), (3, V.d (D.i IntKind.i64 n_1)), (15, V.d (D.b b_2))]) [] [Ob.cells l_3 []]) = interp (rk Tryd.prog pol) (
brB b_2 (Tr.call (Task.at_ 64 1 [false, false, true, true] (sv 22 [(0, V.m 0 0 m_0), (3, V.d (D.i IntKind.i64 (IntKind.i64.wrap (n_1 - 1))))]) [] [Ob.cells l_3 []]) Tr.ret)
  (ift (decide (0 ≤ n_1 ∧ n_1 ≤ (↑m_0 : Int)))
    (ob (o_tail [Ob.cells l_3 []] 1 (V.m 0 0 (n_1.toNat - 0))) fun (l_0 : List D) =>
      ift (headOk 1 l_0) (ift (decide (0 + l_0.length ≤ 4294967296)) (Tr.ret (V.d (D.l l_0.isEmpty ([] ++ l_0)), [Ob.cells l_3 []])))))) :=
  rk_of (by kernel_rfl)
theorem f25_at39 (n_0 : Int) (b_1 : Bool) (l_2 : List D) :
    rk Tryd.prog pol (Task.at_ 68 0 [false, false, true, true, true] (sv 18 [(0, V.d (D.i IntKind.i64 n_0)), (3, V.d (D.l b_1 l_2))]) [] []) = interp (rk Tryd.prog pol) (
brB (decide (n_0 > 0))
  (Tr.call (Task.call 97 [V.d (D.l b_1 l_2), V.d (D.i IntKind.u32 10)] []) fun (o_0 : Out) =>
    ift o_0.snd.isEmpty
      (asD o_0.fst fun (d_1 : D) =>
        asL d_1 fun (b_2 : Bool) (l_3 : List D) =>
          Tr.call (Task.at_ 68 0 [false, false, true, true, true] (sv 18 [(0, V.d (D.i IntKind.i64 (IntKind.i64.wrap (n_0 - 1)))), (3, V.d (D.l b_2 l_3))]) [] []) Tr.ret))
  (Tr.ret (V.d (D.l b_1 l_2), []))) :=
  rk_of (by kernel_rfl)
theorem f24_at44235 (b_0 : Bool) (l_1 : List D) (m_2 : Nat) (n_3 : Int) (n_4 : Int) (n_5 : Int) (b_6 : Bool) (l_7 : List D) (n_8 : Int) (n_9 : Int) (b_10 : Bool) (l_11 : List D) (n_12 : Int) (n_13 : Int) (l_14 : List V) :
    rk Tryd.prog pol (Task.at_ 67 0 [false, true, false, true, true, false, false, true, true, false, false, true, false, true, true]
  (sv 68
    [(1, V.d (D.l b_0 l_1)), (5, V.m 0 0 m_2), (6, V.d (D.i IntKind.i64 n_3)), (7, V.d (D.i IntKind.u32 n_4)), (8, V.d (D.i IntKind.u64 n_5)), (18, V.d (D.l b_6 l_7)), (19, V.d (D.i IntKind.i64 n_8)),
      (20, V.d (D.i IntKind.i64 n_9)), (25, V.d (D.l b_10 l_11)), (26, V.d (D.i IntKind.i64 n_12)), (27, V.d (D.i IntKind.i64 n_13))])
  [] [Ob.cells l_14 []]) = interp (rk Tryd.prog pol) (
brB (decide (n_13 < n_12))
  (ob (getI l_11 n_13) fun (d_0 : D) =>
    ift (d_0.width == 1)
      (ob l_11[n_13.toNat]? fun (d_1 : D) =>
        ob d_1.cells[0]? fun (d_2 : D) =>
          asI IntKind.u32 d_2 fun (n_3_1 : Int) =>
            ift (decide (0 ≤ IntKind.i64.wrap (n_3 + n_13) ∧ IntKind.i64.wrap (n_3 + n_13) < (↑m_2 : Int)))
              (ob l_14[0 + (IntKind.i64.wrap (n_3 + n_13)).toNat]? fun (v_4 : V) =>
                asD v_4 fun (d_5 : D) =>
                  asI IntKind.u32 d_5 fun (n_6 : Int) =>
                    ift (decide (0 ≤ IntKind.i64.wrap (n_3 + n_13) ∧ IntKind.i64.wrap (n_3 + n_13) < (↑m_2 : Int)))
                      (ift (decide (0 + (IntKind.i64.wrap (n_3 + n_13)).toNat < l_14.length) && true)
                        (Tr.call
                          (Task.at_ 67 0 [false, true, false, true, true, false, false, true, true, false, false, true, false, true, true]
                            (sv 68
                              [(1, V.d (D.l b_0 l_1)), (5, V.m 0 0 m_2), (6, V.d (D.i IntKind.i64 n_3)), (7, V.d (D.i IntKind.u32 n_4)),
                                (8,
                                  V.d
                                    (D.i IntKind.u64
                                      ((IntKind.u64.wrap (n_5 + IntKind.u64.wrap (IntKind.u64.wrap (IntKind.u64.wrap n_4 * IntKind.u64.wrap n_3_1) + IntKind.u64.wrap n_6))).fdiv 4294967296))),
                                (18, V.d (D.l b_6 l_7)), (19, V.d (D.i IntKind.i64 n_8)), (20, V.d (D.i IntKind.i64 n_9)), (25, V.d (D.l b_10 l_11)), (26, V.d (D.i IntKind.i64 n_12)),
                                (27, V.d (D.i IntKind.i64 (IntKind.i64.wrap (n_13 + 1))))])
                            []
                            [Ob.cells
                                (l_14.set (0 + (IntKind.i64.wrap (n_3 + n_13)).toNat)
                                  (V.d
                                    (D.i IntKind.u32
                                      (IntKind.u32.wrap (IntKind.u64.wrap (n_5 + IntKind.u64.wrap (IntKind.u64.wrap (IntKind.u64.wrap n_4 * IntKind.u64.wrap n_3_1) + IntKind.u64.wrap n_6)))))))
                                []])
                          Tr.ret)))))
  (ift (decide (0 ≤ IntKind.i64.wrap (n_3 + (↑l_1.length : Int)) ∧ IntKind.i64.wrap (n_3 + (↑l_1.length : Int)) < (↑m_2 : Int)))
    (ift (decide (0 + (IntKind.i64.wrap (n_3 + (↑l_1.length : Int))).toNat < l_14.length) && true)
      (Tr.call
        (Task.at_ 67 0 [false, true, false, true, true]
          (sv 68 [(1, V.d (D.l b_0 l_1)), (5, V.m 0 0 m_2), (18, V.d (D.l b_6 l_7)), (19, V.d (D.i IntKind.i64 n_8)), (20, V.d (D.i IntKind.i64 (IntKind.i64.wrap (n_9 + 1))))]) []
          [Ob.cells (l_14.set (0 + (IntKind.i64.wrap (n_3 + (↑l_1.length : Int))).toNat) (V.d (D.i IntKind.u32 (IntKind.u32.wrap n_5)))) []])
        Tr.ret)))) :=
  rk_of (by kernel_rfl)
theorem f50_at175 (b_0 : Bool) (l_1 : List D) (b_2 : Bool) (l_3 : List D) (n_4 : Int) (b_5 : Bool) (l_6 : List D) (n_7 : Int) (n_8 : Int) :
    rk Tryd.prog pol (Task.at_ 100 0 [false, true, false, true, true, true, true]
  (sv 56 [(1, V.d (D.l b_0 l_1)), (5, V.d (D.l b_2 l_3)), (6, V.d (D.i IntKind.u64 n_4)), (20, V.d (D.l b_5 l_6)), (21, V.d (D.i IntKind.i64 n_7)), (22, V.d (D.i IntKind.i64 n_8))]) [(5, 1)] []) = interp (rk Tryd.prog pol) (
brB (decide (n_8 < n_7))
  (ob (getI l_6 n_8) fun (d_0 : D) =>
    ift (d_0.width == 1)
      (ob l_6[n_8.toNat]? fun (d_1 : D) =>
        ob d_1.cells[0]? fun (d_2 : D) =>
          asI IntKind.u32 d_2 fun (n_3 : Int) =>
            brB (decide (n_8 < (↑l_1.length : Int)))
              (ob (getI l_1 n_8) fun (d_4 : D) =>
                ift (d_4.width == 1)
                  (ob l_1[n_8.toNat]? fun (d_5 : D) =>
                    ob d_5.cells[0]? fun (d_6 : D) =>
                      asI IntKind.u32 d_6 fun (n_7_1 : Int) =>
                        Tr.call
                          (Task.at_ 100 0 [true, true, true, false, false, true, true, false, false, true, false, true, true, true, true]
                            (sv 56
                              [(1, V.d (D.l b_0 l_1)), (5, V.d (D.l b_2 l_3)), (6, V.d (D.i IntKind.u64 (IntKind.u64.wrap (IntKind.u64.wrap (n_4 + IntKind.u64.wrap n_3) + IntKind.u64.wrap n_7_1)))),
                                (20, V.d (D.l b_5 l_6)), (21, V.d (D.i IntKind.i64 n_7)), (22, V.d (D.i IntKind.i64 n_8))])
                            [(5, 1)] [])
                          Tr.ret))
              (Tr.call
                (Task.at_ 100 0 [true, true, true, false, false, true, true, false, false, true, false, true, true, true, true]
                  (sv 56
                    [(1, V.d (D.l b_0 l_1)), (5, V.d (D.l b_2 l_3)), (6, V.d (D.i IntKind.u64 (IntKind.u64.wrap (n_4 + IntKind.u64.wrap n_3)))), (20, V.d (D.l b_5 l_6)),
                      (21, V.d (D.i IntKind.i64 n_7)), (22, V.d (D.i IntKind.i64 n_8))])
                  [(5, 1)] [])
                Tr.ret)))
  (ift (headOk 1 l_3)
    (ift (b_2 || true)
      (ift (decide (l_3.length + 1 ≤ 4294967296))
        (Tr.call (Task.call 64 [V.d (D.l (b_2 && false) (l_3 ++ [D.i IntKind.u32 (IntKind.u32.wrap n_4)]))] []) fun (o_8 : Out) =>
          ift o_8.snd.isEmpty (asD o_8.fst fun (d_9 : D) => asL d_9 fun (b_10 : Bool) (l_11 : List D) => Tr.ret (V.d (D.l b_10 l_11), []))))))) :=
  rk_of (by kernel_rfl)
theorem f74_at14639 (b_0 : Bool) (l_1 : List D) (b_2 : Bool) (l_3 : List D) (m_4 : Nat) (b_5 : Bool) (l_6 : List D) (n_7 : Int) (l_8 : List V) :
    rk Tryd.prog pol (Task.at_ 99 0 [true, true, false, false, true, false, false, true, false, true, true, true, true]
  (sv 64 [(0, V.d (D.l b_0 l_1)), (1, V.d (D.l b_2 l_3)), (4, V.m 0 0 m_4), (5, V.d (D.l b_5 l_6)), (7, V.d (D.i IntKind.i64 n_7))]) [] [Ob.cells l_8 []]) = interp (rk Tryd.prog pol) (
Tr.call (Task.call 118 [V.d (D.l b_5 l_6), V.d (D.l b_2 l_3)] []) fun (o_0 : Out) =>
  ift o_0.snd.isEmpty
    (unT o_0.fst fun (l_1_1 : List V) =>
      ift (l_1_1.length == 2)
        (asD (l_1_1.getD 0 (V.d (D.b false))) fun (d_2 : D) =>
          asL d_2 fun (b_3 : Bool) (l_4 : List D) =>
            asD (l_1_1.getD 1 (V.d (D.b false))) fun (d_5 : D) =>
              asB d_5 fun (b_6 : Bool) =>
                brB b_6
                  (ift (decide (0 ≤ IntKind.i64.wrap (n_7.tdiv 32) ∧ IntKind.i64.wrap (n_7.tdiv 32) < (↑m_4 : Int)))
                    (ob l_8[0 + (IntKind.i64.wrap (n_7.tdiv 32)).toNat]? fun (v_7 : V) =>
                      asD v_7 fun (d_8 : D) =>
                        asI IntKind.u32 d_8 fun (n_9 : Int) =>
                          ift (decide (0 ≤ n_7.tmod 32))
                            (ift (decide (0 ≤ IntKind.i64.wrap (n_7.tdiv 32) ∧ IntKind.i64.wrap (n_7.tdiv 32) < (↑m_4 : Int)))
                              (ift (decide (0 + (IntKind.i64.wrap (n_7.tdiv 32)).toNat < l_8.length) && true)
                                (Tr.call
                                  (Task.at_ 99 0 [false, true, false, true, true, true, true]
                                    (sv 64 [(0, V.d (D.l b_0 l_1)), (1, V.d (D.l b_2 l_3)), (4, V.m 0 0 m_4), (5, V.d (D.l b_3 l_4)), (7, V.d (D.i IntKind.i64 (IntKind.i64.wrap (n_7 - 1))))]) []
                                    [Ob.cells
                                        (l_8.set (0 + (IntKind.i64.wrap (n_7.tdiv 32)).toNat)
                                          (V.d
                                            (D.i IntKind.u32
                                              (IntKind.u32.wrap
                                                (↑(BitVec.ofInt IntKind.u32.bits n_9 ||| BitVec.ofInt IntKind.u32.bits (IntKind.u32.wrap (1 * 2 ^ min (n_7.tmod 32).toNat 32))).toNat : Int)))))
                                        []])
                                  Tr.ret)))))
                  (Tr.call
                    (Task.at_ 99 0 [false, true, false, true, true, true, true]
                      (sv 64 [(0, V.d (D.l b_0 l_1)), (1, V.d (D.l b_2 l_3)), (4, V.m 0 0 m_4), (5, V.d (D.l b_5 l_6)), (7, V.d (D.i IntKind.i64 (IntKind.i64.wrap (n_7 - 1))))]) [] [Ob.cells l_8 []])
                    Tr.ret)))) :=
  rk_of (by kernel_rfl)
theorem f50_at62255 (b_0 : Bool) (l_1 : List D) (b_2 : Bool) (l_3 : List D) (n_4 : Int) (b_5 : Bool) (l_6 : List D) (n_7 : Int) (n_8 : Int) :
    rk Tryd.prog pol (Task.at_ 100 0 [true, true, true, false, false, true, true, false, false, true, false, true, true, true, true]
  (sv 56 [(1, V.d (D.l b_0 l_1)), (5, V.d (D.l b_2 l_3)), (6, V.d (D.i IntKind.u64 n_4)), (20, V.d (D.l b_5 l_6)), (21, V.d (D.i IntKind.i64 n_7)), (22, V.d (D.i IntKind.i64 n_8))]) [(5, 1)] []) = interp (rk Tryd.prog pol) (
ift (headOk 1 l_3)
  (ift (b_2 || true)
    (ift (decide (l_3.length + 1 ≤ 4294967296))
      (Tr.call
        (Task.at_ 100 0 [false, true, false, true, true, true, true]
          (sv 56
            [(1, V.d (D.l b_0 l_1)), (5, V.d (D.l (b_2 && false) (l_3 ++ [D.i IntKind.u32 (IntKind.u32.wrap n_4)]))), (6, V.d (D.i IntKind.u64 (n_4.fdiv 4294967296))), (20, V.d (D.l b_5 l_6)),
              (21, V.d (D.i IntKind.i64 n_7)), (22, V.d (D.i IntKind.i64 (IntKind.i64.wrap (n_8 + 1))))])
          [(5, 1)] [])
        Tr.ret)))) :=
  rk_of (by kernel_rfl)
theorem f74_at175_1 (b_0 : Bool) (l_1 : List D) (b_2 : Bool) (l_3 : List D) (m_4 : Nat) (b_5 : Bool) (l_6 : List D) (n_7 : Int) (l_8 : List V) :
    rk Tryd.prog pol (Task.at_ 99 0 [false, true, false, true, true, true, true] (sv 64 [(0, V.d (D.l b_0 l_1)), (1, V.d (D.l b_2 l_3)), (4, V.m 0 0 m_4), (5, V.d (D.l b_5 l_6)), (7, V.d (D.i IntKind.i64 n_7))]) []
  [Ob.cells l_8 []]) = interp (rk Tryd.prog pol) (
brB (decide (n_7 ≥ 0))
  (Tr.call (Task.call 63 [V.d (D.l b_5 l_6), V.d (D.i IntKind.i64 1)] []) fun (o_0 : Out) =>
    ift o_0.snd.isEmpty
      (asD o_0.fst fun (d_1 : D) =>
        asL d_1 fun (b_2_1 : Bool) (l_3_1 : List D) =>
          ob (getI l_1 (IntKind.i64.wrap (n_7.tdiv 32))) fun (d_4 : D) =>
            ift (d_4.width == 1)
              (ob l_1[(IntKind.i64.wrap (n_7.tdiv 32)).toNat]? fun (d_5 : D) =>
                ob d_5.cells[0]? fun (d_6 : D) =>
                  asI IntKind.u32 d_6 fun (n_7_1 : Int) =>
                    ift (decide (0 ≤ n_7.tmod 32))
                      (brB (IntKind.u32.wrap (↑(BitVec.ofInt IntKind.u32.bits (n_7_1.fdiv (2 ^ min (n_7.tmod 32).toNat 32)) &&& BitVec.ofInt IntKind.u32.bits 1).toNat : Int) != 0)
                        (Tr.call (Task.call 62 [V.d (D.i IntKind.u64 1)] []) fun (o_8 : Out) =>
                          ift o_8.snd.isEmpty
                            (asD o_8.fst fun (d_9 : D) =>
                              asL d_9 fun (b_10 : Bool) (l_11 : List D) =>
                                Tr.call (Task.call 100 [V.d (D.l b_2_1 l_3_1), V.d (D.l b_10 l_11)] []) fun (o_12 : Out) =>
                                  ift o_12.snd.isEmpty
                                    (asD o_12.fst fun (d_13 : D) =>
                                      asL d_13 fun (b_14 : Bool) (l_15 : List D) =>
                                        Tr.call
                                          (Task.at_ 99 0 [true, true, false, false, true, false, false, true, false, true, true, true, true]
                                            (sv 64 [(0, V.d (D.l b_0 l_1)), (1, V.d (D.l b_2 l_3)), (4, V.m 0 0 m_4), (5, V.d (D.l b_14 l_15)), (7, V.d (D.i IntKind.i64 n_7))]) [] [Ob.cells l_8 []])
                                          Tr.ret)))
                        (Tr.call
                          (Task.at_ 99 0 [true, true, false, false, true, false, false, true, false, true, true, true, true]
                            (sv 64 [(0, V.d (D.l b_0 l_1)), (1, V.d (D.l b_2 l_3)), (4, V.m 0 0 m_4), (5, V.d (D.l b_2_1 l_3_1)), (7, V.d (D.i IntKind.i64 n_7))]) [] [Ob.cells l_8 []])
                          Tr.ret)))))
  (Tr.call (Task.call 64 [V.m 0 0 m_4] [Ob.cells l_8 []]) fun (o_16 : Out) =>
    unCons o_16.snd fun (x_17 : Ob) (l_18 : List Ob) =>
      unCells x_17 fun (l_19 : List V) (l_20 : Fl) =>
        ift (l_19.length == l_8.length)
          (ift (l_20 == [])
            (unNil l_18
              (asD o_16.fst fun (d_21 : D) =>
                asL d_21 fun (b_22 : Bool) (l_23 : List D) =>
                  Tr.call (Task.call 64 [V.d (D.l b_5 l_6)] []) fun (o_24 : Out) =>
                    ift o_24.snd.isEmpty (asD o_24.fst fun (d_25 : D) => asL d_25 fun (b_26 : Bool) (l_27 : List D) => Tr.ret (V.t [V.d (D.l b_22 l_23), V.d (D.l b_26 l_27), V.d (D.b true)], []))))))) :=
  rk_of (by kernel_rfl)
end Go.Dn.Dec
namespace Go.Dn.Dec
open Go.Proofs
def cellsOf (a : List Int) : List V := (ints .u32 a).map V.d
theorem unDs_map : ∀ l : List D, unDs (l.map V.d) = some l
  | [] => rfl
  | d :: l => by simp [unDs, unD, unDs_map l]
theorem cellsOf_len (a : List Int) : (cellsOf a).length = a.length := by simp [cellsOf]
theorem cellsOf_get (a : List Int) (i : Nat) : (cellsOf a)[i]? = a[i]?.map fun z => V.d (.i .u32 z) := by simp [cellsOf]; rfl
theorem view_cells (a : List Int) (n : Nat) (h : n ≤ a.length) : o_tail [Ob.cells (cellsOf a) []] 1 (V.m 0 0 n) = some (ints .u32 (a.take n)) := by
  simp only [o_tail, view, oget, List.length_nil, if_true]
  rw [if_pos (by rw [cellsOf_len]; omega)]
  simp only [List.drop_zero, cellsOf, ← List.map_take, take_ints, unDs_map]
theorem isEmpty_ints (k : IntKind) (a : List Int) : (ints k a).isEmpty = a.isEmpty := by cases a <;> rfl
theorem nl_of {a : List Int} {n : Nat} (h : limbs n = a) : nl n = .l a.isEmpty (ints .u32 a) := by
  unfold nl
  rw [h]
  congr 1
  cases a with
  | nil => simp [(limbs_nil_iff n).1 h]
  | cons z a =>
    have : n ≠ 0 := fun e => by rw [(limbs_nil_iff n).2 e] at h; cases h
    simp [this]
theorem limbs_take {a : List Int} (ha : U32 a) {n : Nat} (hn : n < a.length) (hz : a[n] ≠ 0) : limbs (valL (a.take (n + 1))) = a.take (n + 1) := by
  refine limbs_val (ha.take _) fun z hz' => ?_
  rw [List.getLast?_eq_getElem?, List.length_take, Nat.min_eq_left (by omega), List.getElem?_take_of_lt (by omega), Nat.add_sub_cancel, List.getElem?_eq_getElem hn] at hz'
  injection hz' with hz'; rw [← hz']; exact hz
theorem cut_loop (b : Bool) (a : List Int) (ha : U32 a) (hb : a.length ≤ 1000000) : ∀ n : Nat, n ≤ a.length → valL (a.take n) = valL a →
    rk Tryd.prog pol (Task.at_ 64 0 [false, false, true, true] (sv 22 [(0, V.d (D.l b (ints .u32 a))), (3, V.d (D.i .i64 (n : Int)))]) [] []) = some (.d (nl (valL a)), [])
  | 0, hn, hv => by
    rw [f51_at19]
    have h0 : valL a = 0 := by rw [← hv]; rfl
    have e : nl (valL a) = .l true [] := by rw [h0]; exact nl_of limbs_zero
    simp [f51_at195, e]
  | n + 1, hn, hv => by
    rw [f51_at19]
    have hx : n < a.length := by omega
    have gx := List.getElem?_eq_getElem hx
    have hp : (0 : Int) < (n : Int) + 1 := by omega
    have hw : IntKind.i64.wrap (n : Int) = (n : Int) := by rw [wrap_i64] <;> omega
    have hl : n + 1 ≤ 4294967296 := by omega
    by_cases h0 : a[n] = 0
    · have ih := cut_loop b a ha hb n (by omega) (by rw [← hv]; exact (val_take_zero a n (by rw [gx, h0])).symm)
      simp [hp, hw, gx, h0, f51_at195, ih]
    · have e : nl (valL a) = .l (a.take (n + 1)).isEmpty (ints .u32 (a.take (n + 1))) := by rw [← hv]; exact nl_of (limbs_take ha hx h0)
      have hle : (n : Int) + 1 ≤ (a.length : Int) := by omega
      have hp2 : (0 : Int) ≤ (n : Int) + 1 := by omega
      have ht : ((n : Int) + 1).toNat = n + 1 := by omega
      have hl2 : n + 1 ≤ a.length := by omega
      simp [hp, hw, gx, h0, f51_at195, hle, hp2, ht, take_ints, hl, e, isEmpty_ints, hl2]
theorem cut_run (b : Bool) (a : List Int) (ha : U32 a) (hb : a.length ≤ 1000000) : rk Tryd.prog pol (Task.call 64 [V.d (D.l b (ints .u32 a))] []) = some (.d (nl (valL a)), []) := by
  rw [f51]
  simp [cut_loop b a ha hb a.length (Nat.le_refl _) (by rw [List.take_length])]
theorem cutm_loop (a : List Int) (ha : U32 a) (hb : a.length ≤ 1000000) : ∀ n : Nat, n ≤ a.length → valL (a.take n) = valL a →
    rk Tryd.prog pol (Task.at_ 64 1 [false, false, true, true] (sv 22 [(0, V.m 0 0 a.length), (3, V.d (D.i .i64 (n : Int)))]) [] [Ob.cells (cellsOf a) []]) = some (.d (nl (valL a)), [Ob.cells (cellsOf a) []])
  | 0, hn, hv => by
    rw [f51_at19_1]
    have h0 : valL a = 0 := by rw [← hv]; rfl
    have e : nl (valL a) = .l true [] := by rw [h0]; exact nl_of limbs_zero
    have hv0 := view_cells a 0 (by omega)
    simp [f51_at195_1, e, hv0, ints]
  | n + 1, hn, hv => by
    rw [f51_at19_1]
    have hx : n < a.length := by omega
    have gx := List.getElem?_eq_getElem hx
    have hp : (0 : Int) < (n : Int) + 1 := by omega
    have hw : IntKind.i64.wrap (n : Int) = (n : Int) := by rw [wrap_i64] <;> omega
    have hl : n + 1 ≤ 4294967296 := by omega
    have hni : (n : Int) < (a.length : Int) := by omega
    by_cases h0 : a[n] = 0
    · have ih := cutm_loop a ha hb n (by omega) (by rw [← hv]; exact (val_take_zero a n (by rw [gx, h0])).symm)
      simp [hp, hw, hni, cellsOf_get, gx, h0, f51_at195_1, ih]
    · have e : nl (valL a) = .l (a.take (n + 1)).isEmpty (ints .u32 (a.take (n + 1))) := by rw [← hv]; exact nl_of (limbs_take ha hx h0)
      have hle : (n : Int) + 1 ≤ (a.length : Int) := by omega
      have hp2 : (0 : Int) ≤ (n : Int) + 1 := by omega
      have ht : ((n : Int) + 1).toNat = n + 1 := by omega
      have hl2 : n + 1 ≤ a.length := by omega
      have hv1 := view_cells a (n + 1) hl2
      simp [hp, hw, hni, cellsOf_get, gx, h0, f51_at195_1, hle, hp2, ht, hv1, hl, e, isEmpty_ints, hl2]
theorem cutm_run (a : List Int) (ha : U32 a) (hb : a.length ≤ 1000000) : rk Tryd.prog pol (Task.call 64 [V.m 0 0 a.length] [Ob.cells (cellsOf a) []]) = some (.d (nl (valL a)), [Ob.cells (cellsOf a) []]) := by
  rw [f51m]
  simp [cutm_loop a ha hb a.length (Nat.le_refl _) (by rw [List.take_length])]
end Go.Dn.Dec
namespace Go.Dn.Dec
open Go.Proofs
theorem u32_wrap (n : Int) : IntKind.u32.wrap n = n % 4294967296 := by
  have e : ((2 : Int) ^ IntKind.u32.bits) = 4294967296 := by decide
  simp [IntKind.wrap, IntKind.signed, e]
theorem u64_wrap (n : Int) : IntKind.u64.wrap n = n % 18446744073709551616 := by
  have e : ((2 : Int) ^ IntKind.u64.bits) = 18446744073709551616 := by decide
  simp [IntKind.wrap, IntKind.signed, e]
theorem fdiv_W (n : Nat) : ((n : Int)).fdiv 4294967296 = ((n / W : Nat) : Int) := by
  rw [Int.fdiv_eq_ediv_of_nonneg _ (by decide)]; unfold W; omega
theorem mod_W (n : Nat) : (n : Int) % 4294967296 = ((n % W : Nat) : Int) := by unfold W; omega
theorem mod_64 {n : Nat} (h : n < 18446744073709551616) : (n : Int) % 18446744073709551616 = (n : Int) := by omega
theorem mod_32 {n : Nat} (h : n < 4294967296) : (n : Int) % 4294967296 = (n : Int) := by omega
theorem of_run (n : Nat) (h : n < 18446744073709551616) : rk Tryd.prog pol (Task.call 62 [V.d (D.i .u64 (n : Int))] []) = some (.d (nl n), []) := by
  rw [f23]
  have e : [D.i IntKind.u32 (IntKind.u32.wrap n), D.i IntKind.u32 (IntKind.u32.wrap ((n : Int).fdiv 4294967296))] = ints .u32 [((n % W : Nat) : Int), ((n / W : Nat) : Int)] := by
    rw [u32_wrap, u32_wrap, fdiv_W, mod_W, mod_32 (by unfold W; omega)]; rfl
  have hv : valL [((n % W : Nat) : Int), ((n / W : Nat) : Int)] = n := by
    simp only [valL, Int.toNat_natCast]
    have := Nat.mod_add_div n W; omega
  have hu : U32 [((n % W : Nat) : Int), ((n / W : Nat) : Int)] := by
    intro z hz
    have h1 := Nat.mod_lt n W_pos
    have h2 : n / W < 4294967296 := by unfold W; omega
    unfold W at *
    simp at hz
    rcases hz with rfl | rfl <;> omega
  have hc := cut_run true _ hu (by simp)
  rw [hv] at hc
  rw [e]
  generalize ints .u32 [((n % W : Nat) : Int), ((n / W : Nat) : Int)] = L at hc ⊢
  simp [hc, nl]
theorem drop_val {a : List Int} {i : Nat} (h : i < a.length) : valL (a.drop i) = a[i].toNat + W * valL (a.drop (i + 1)) := by
  rw [List.drop_eq_getElem_cons h, valL]
theorem U32.get {a : List Int} (h : U32 a) {i : Nat} (hi : i < a.length) : ∃ x : Nat, a[i] = (x : Int) ∧ x < 4294967296 := by
  have := h _ (List.getElem_mem hi)
  exact ⟨a[i].toNat, by omega, by omega⟩
theorem U32.snoc {a : List Int} (h : U32 a) {n : Nat} (hn : n < 4294967296) : U32 (a ++ [(n : Int)]) := h.append fun z hz => by simp at hz; omega
theorem mulW {x y : Nat} (hx : x < 4294967296) (hy : y < 4294967296) : x * y ≤ 18446744065119617025 := by
  have := Nat.mul_le_mul (show x ≤ 4294967295 by omega) (show y ≤ 4294967295 by omega)
  omega
theorem times_loop (y : Nat) (hy : y < 4294967296) (b : Bool) (a : List Int) (ha : U32 a) (hb : a.length ≤ 100000) : ∀ (d i : Nat) (b1 : Bool) (out : List Int) (c : Nat), i + d = a.length → U32 out → out.length = i → c < 4294967296 →
    rk Tryd.prog pol (Task.at_ 97 0 [false, true, false, true, true, true]
      (sv 40 [(1, V.d (D.i .u32 (y : Int))), (5, V.d (D.l b1 (ints .u32 out))), (6, V.d (D.i .u64 (c : Int))), (13, V.d (D.l b (ints .u32 a))), (14, V.d (D.i .i64 (a.length : Int))), (15, V.d (D.i .i64 (i : Int)))]) [(5, 1)] []) =
    some (.d (nl (valL out + W ^ i * (c + valL (a.drop i) * y))), []) := by
  intro d
  induction d with
  | zero =>
    intro i b1 out c hi hu hl hc
    rw [f52_at87]
    have h3 : ¬ ((i : Int) < (a.length : Int)) := by omega
    have hd : a.drop i = [] := List.drop_eq_nil_of_le (by omega)
    have hw : IntKind.u32.wrap (c : Int) = (c : Int) := by rw [u32_wrap, mod_32 hc]
    have hcut := cut_run false (out ++ [(c : Int)]) (hu.snoc hc) (by simp; omega)
    have hv : valL (out ++ [(c : Int)]) = valL out + W ^ i * (c + valL (a.drop i) * y) := by
      rw [val_append, hl, hd]; simp [valL]
    rw [hv] at hcut
    have hlen : i ≤ 4294967295 := by omega
    simp [h3, hw, hl, hlen, ints_snoc, hcut, nl, bnd]
  | succ d ih =>
    intro i b1 out c hi hu hl hc
    rw [f52_at87]
    have hx : i < a.length := by omega
    have gx := List.getElem?_eq_getElem hx
    obtain ⟨x, ex, hx32⟩ := ha.get hx
    have h3 : ((i : Int) < (a.length : Int)) := by omega
    have hlen : i ≤ 4294967295 := by omega
    have hm := mulW hx32 hy
    have hw1 : IntKind.u64.wrap ((c : Int) + IntKind.u64.wrap (IntKind.u64.wrap (x : Int) * IntKind.u64.wrap (y : Int))) = ((c + x * y : Nat) : Int) := by
      rw [u64_wrap (x : Int), u64_wrap (y : Int), mod_64 (by omega), mod_64 (by omega), ← Int.natCast_mul, u64_wrap ((x * y : Nat) : Int), mod_64 (by omega), ← Int.natCast_add, u64_wrap, mod_64 (by omega)]
    have hw2 : IntKind.u32.wrap ((c + x * y : Nat) : Int) = (((c + x * y) % W : Nat) : Int) := by rw [u32_wrap, mod_W]
    have hw3 : ((c + x * y : Nat) : Int).fdiv 4294967296 = (((c + x * y) / W : Nat) : Int) := fdiv_W _
    have hw : IntKind.i64.wrap ((i : Int) + 1) = ((i + 1 : Nat) : Int) := by rw [wrap_i64] <;> omega
    have hmod : (c + x * y) % W < 4294967296 := Nat.mod_lt _ W_pos
    have hdiv : (c + x * y) / W < 4294967296 := by unfold W; omega
    have ih' := ih (i + 1) false (out ++ [(((c + x * y) % W : Nat) : Int)]) ((c + x * y) / W) (by omega) (hu.snoc hmod) (by simp [hl]) hdiv
    have hval : valL (out ++ [(((c + x * y) % W : Nat) : Int)]) + W ^ (i + 1) * ((c + x * y) / W + valL (a.drop (i + 1)) * y) = valL out + W ^ i * (c + valL (a.drop i) * y) := by
      rw [val_append, hl, drop_val hx, ex]
      simp only [valL, Int.toNat_natCast, Nat.mul_zero, Nat.add_zero]
      rw [Nat.pow_succ, Nat.add_assoc, Nat.mul_assoc, ← Nat.mul_add]
      congr 2
      have := Nat.mod_add_div (c + x * y) W
      rw [Nat.mul_add, ← Nat.add_assoc, this, Nat.add_mul, Nat.mul_assoc, Nat.add_assoc]
    rw [hval] at ih'
    rw [← ints_snoc] at ih'
    generalize hT : (c + x * y : Nat) = T at hw1 hw2 hw3 ih'
    simp only [interp_brB, h3, decide_true, if_true, interp_ob', interp_ift', interp_asI, getI_nat, get_ints, gx, ex, Option.map_some, Option.bind_some, width_i, cells_i, beq_self_eq_true, head_ints, Bool.or_true, len_ints, hl, Bool.and_false, hw1, hw2, hw3, hw, Int.toNat_natCast, List.getElem?_cons_zero, interp_call_ret]
    rw [if_pos (by simpa using hlen)]
    exact ih'
theorem times_run (y : Nat) (hy : y < 4294967296) (b : Bool) (x : Nat) (hx : (limbs x).length ≤ 100000) : rk Tryd.prog pol (Task.call 97 [V.d (D.l b (ints .u32 (limbs x))), V.d (D.i .u32 (y : Int))] []) = some (.d (nl (x * y)), []) := by
  rw [f52]
  have h := times_loop y hy b (limbs x) (limbs_u32 x) hx (limbs x).length 0 false [] 0 (by omega) U32.nil rfl (by omega)
  rw [Int.natCast_zero, ints_nil] at h
  simp only [valL, Nat.pow_zero, Nat.one_mul, Nat.zero_add, List.drop_zero, val_limbs] at h
  have hw : IntKind.i64.wrap (((limbs x).length : Int) + 1) = ((limbs x).length : Int) + 1 := by rw [wrap_i64] <;> omega
  have h1 : (0 : Int) ≤ ((limbs x).length : Int) + 1 := by omega
  have h2 : ((limbs x).length : Int) + 1 ≤ 4294967296 := by omega
  simp only [len_ints, hw, interp_ift', decide_eq_true h1, decide_eq_true h2, if_true, interp_call_ret]
  exact h
end Go.Dn.Dec
namespace Go.Dn.Dec
open Go.Proofs
/-- A number's words. -/
def ws (n : Nat) : List D := ints .u32 (limbs n)
def nb (n : Nat) : Bool := decide (n = 0)
theorem nl_ws (n : Nat) : nl n = .l (nb n) (ws n) := rfl
@[simp] theorem ws_len (n : Nat) : (ws n).length = (limbs n).length := by simp [ws]
@[simp] theorem ws_head (n : Nat) : headOk 1 (ws n) = true := by simp [ws]
theorem ws_zero : ws 0 = [] := by simp [ws, limbs_zero, ints]
theorem nb_zero : nb 0 = true := rfl
/-- Numbers that are not too long. -/
def Fits (n : Nat) : Prop := n < W ^ 10000
theorem limbs_len {n k : Nat} (h : n < W ^ k) : (limbs n).length ≤ k := by
  induction k generalizing n with
  | zero =>
    have : n = 0 := by simpa using h
    rw [this, limbs_zero]; simp
  | succ k ih =>
    by_cases h0 : n = 0
    · rw [h0, limbs_zero]; simp
    · rw [limbs_pos h0, List.length_cons]
      have : n / W < W ^ k := by
        rw [Nat.pow_succ] at h
        exact Nat.div_lt_of_lt_mul (by rw [Nat.mul_comm]; exact h)
      have := ih this; omega
theorem Fits.len {n : Nat} (h : Fits n) : (limbs n).length ≤ 10000 := limbs_len h
theorem Fits.le {m n : Nat} (h : Fits n) (hm : m ≤ n) : Fits m := Nat.lt_of_le_of_lt hm h
theorem of_ws (n : Nat) (h : n < 18446744073709551616) : rk Tryd.prog pol (Task.call 62 [V.d (D.i .u64 (n : Int))] []) = some (.d (.l (nb n) (ws n)), []) := of_run n h
theorem times_ws (y : Nat) (hy : y < 4294967296) (b : Bool) (x : Nat) (hx : Fits x) : rk Tryd.prog pol (Task.call 97 [V.d (D.l b (ws x)), V.d (D.i .u32 (y : Int))] []) = some (.d (.l (nb (x * y)) (ws (x * y))), []) :=
  times_run y hy b x (by have := hx.len; omega)
set_option exponentiation.threshold 400000 in
theorem fits_pow {n : Nat} (h : n < 10000) : Fits (10 ^ n) :=
  Nat.lt_of_le_of_lt (Nat.pow_le_pow_left (show 10 ≤ W by decide) n) (Nat.pow_lt_pow_right (by decide) h)
theorem ten_loop : ∀ (k : Nat) (v : Nat), Fits (v * 10 ^ k) → k ≤ 1000 →
    rk Tryd.prog pol (Task.at_ 68 0 [false, false, true, true, true] (sv 18 [(0, V.d (D.i .i64 (k : Int))), (3, V.d (D.l (nb v) (ws v)))]) [] []) = some (.d (.l (nb (v * 10 ^ k)) (ws (v * 10 ^ k))), [])
  | 0, v, hv, hk => by
    rw [f25_at39]
    simp
  | k + 1, v, hv, hk => by
    rw [f25_at39]
    have hle : v ≤ v * 10 ^ (k + 1) := Nat.le_mul_of_pos_right _ (Nat.pow_pos (by decide))
    have ht : rk Tryd.prog pol (Task.call 97 [V.d (D.l (nb v) (ws v)), V.d (D.i .u32 10)] []) = some (.d (.l (nb (v * 10)) (ws (v * 10))), []) := times_ws 10 (by decide) (nb v) v (hv.le hle)
    have e : v * 10 * 10 ^ k = v * 10 ^ (k + 1) := by rw [Nat.pow_succ, Nat.mul_assoc, Nat.mul_comm 10]
    have ih := ten_loop k (v * 10) (by rw [e]; exact hv) (by omega)
    have hp : (0 : Int) < (k : Int) + 1 := by omega
    have hw : IntKind.i64.wrap (k : Int) = (k : Int) := by rw [wrap_i64] <;> omega
    rw [e] at ih
    simp [hp, hw, ht, ih]
theorem ten_ws (n : Nat) (hn : n ≤ 1000) : rk Tryd.prog pol (Task.call 68 [V.d (D.i .i64 (n : Int))] []) = some (.d (.l (nb (10 ^ n)) (ws (10 ^ n))), []) := by
  rw [f25]
  have h1 : rk Tryd.prog pol (Task.call 62 [V.d (D.i .u64 1)] []) = some (.d (.l (nb 1) (ws 1)), []) := of_ws 1 (by decide)
  have h2 := ten_loop n 1 (by rw [Nat.one_mul]; exact fits_pow (by omega)) hn
  rw [Nat.one_mul] at h2
  have hc1 : ¬ ((n : Int) < 0) := by omega
  have hc2 : ¬ ((1000 : Int) < (n : Int)) := by omega
  simp [hc1, hc2, f25_at13, h1, h2]
end Go.Dn.Dec
namespace Go.Dn.Dec
open Go.Proofs
theorem val_set : ∀ (l : List Int) (j : Nat) (z : Int) (h : j < l.length), valL (l.set j z) + W ^ j * l[j].toNat = valL l + W ^ j * z.toNat
  | [], j, z, h => by simp at h
  | x :: l, 0, z, h => by simp [valL]; omega
  | x :: l, j + 1, z, h => by
    have ih := val_set l j z (by simpa using h)
    simp only [List.set_cons_succ, valL, List.getElem_cons_succ]
    rw [Nat.pow_succ, Nat.mul_comm (W ^ j) W, Nat.mul_assoc, Nat.mul_assoc, Nat.add_assoc, ← Nat.mul_add, ih, Nat.mul_add, Nat.add_assoc]
theorem U32.set {a : List Int} (h : U32 a) (j : Nat) {n : Nat} (hn : n < 4294967296) : U32 (a.set j (n : Int)) := fun z hz => by
  rcases List.mem_or_eq_of_mem_set hz with hz | rfl
  · exact h z hz
  · omega
theorem cells_set (a : List Int) (j : Nat) (z : Int) : (cellsOf a).set j (V.d (.i .u32 z)) = cellsOf (a.set j z) := by
  simp [cellsOf, ints, List.map_set]
theorem zeros_set {a : List Int} {j m : Nat} (h : ∀ k, m ≤ k → k < a.length → a[k]? = some 0) (hj : j < m) (z : Int) : ∀ k, m ≤ k → k < (a.set j z).length → (a.set j z)[k]? = some 0 := by
  intro k hk hl
  rw [List.getElem?_set_ne (by omega)]
  exact h k hk (by simpa using hl)
/-- Inside one row of the product. -/
def inT (by_ bx b2 : Bool) (xs : List D) (y : List Int) (n i x : Nat) (c : Nat) (n8 n9 : Int) (k : Nat) (out : List Int) : Task :=
  Task.at_ 67 0 [false, true, false, true, true, false, false, true, true, false, false, true, false, true, true]
      (sv 68 [(1, V.d (D.l by_ (ints .u32 y))), (5, V.m 0 0 n), (6, V.d (D.i .i64 (i : Int))), (7, V.d (D.i .u32 (x : Int))), (8, V.d (D.i .u64 (c : Int))), (18, V.d (D.l bx xs)), (19, V.d (D.i .i64 n8)), (20, V.d (D.i .i64 n9)), (25, V.d (D.l b2 (ints .u32 y))), (26, V.d (D.i .i64 (y.length : Int))), (27, V.d (D.i .i64 (k : Int)))])
      [] [Ob.cells (cellsOf out) []]
theorem mul_inner_loop (x : Nat) (hx : x < 4294967296) (bx by_ b2 : Bool) (xs : List D) (y : List Int) (hy : U32 y) (i n : Nat) (hn : i + y.length < n) (hyl : n ≤ 1000000) (n8 n9 : Int) :
    ∀ (d k : Nat) (c : Nat) (out : List Int), k + d = y.length → U32 out → out.length = n → c < 4294967296 → (∀ j, i + y.length ≤ j → j < out.length → out[j]? = some 0) →
    ∃ (c' : Nat) (out' : List Int), U32 out' ∧ out'.length = n ∧ c' < 4294967296 ∧ (∀ j, i + y.length ≤ j → j < out'.length → out'[j]? = some 0) ∧
      valL out' + W ^ (i + y.length) * c' = valL out + W ^ (i + k) * (c + x * valL (y.drop k)) ∧
      rk Tryd.prog pol (inT by_ bx b2 xs y n i x c n8 n9 k out) = rk Tryd.prog pol (inT by_ bx b2 xs y n i x c' n8 n9 y.length out') := by
  intro d
  induction d with
  | zero =>
    intro k c out hk hu hl hc hz
    have hky : k = y.length := by omega
    subst hky
    refine ⟨c, out, hu, hl, hc, hz, ?_, rfl⟩
    rw [List.drop_length]; simp [valL]
  | succ d ih =>
    intro k c out hk hu hl hc hz
    have hky : k < y.length := by omega
    have gy := List.getElem?_eq_getElem hky
    obtain ⟨w, ew, hw32⟩ := hy.get hky
    have hj : i + k < out.length := by omega
    have gj := List.getElem?_eq_getElem hj
    obtain ⟨o, eo, ho32⟩ := hu.get hj
    have hm := mulW hx hw32
    have hT : c + (x * w + o) < 18446744073709551616 := by omega
    have hmod : (c + (x * w + o)) % W < 4294967296 := Nat.mod_lt _ W_pos
    have hdiv : (c + (x * w + o)) / W < 4294967296 := by unfold W; omega
    obtain ⟨c', out', u1, u2, u3, u4, u5, u6⟩ := ih (k + 1) ((c + (x * w + o)) / W) (out.set (i + k) (((c + (x * w + o)) % W : Nat) : Int)) (by omega) (hu.set _ hmod) (by simpa using hl) hdiv (zeros_set hz (by omega) _)
    refine ⟨c', out', u1, u2, u3, u4, ?_, ?_⟩
    · rw [u5]
      have hs := val_set out (i + k) (((c + (x * w + o)) % W : Nat) : Int) hj
      rw [eo] at hs
      simp only [Int.toNat_natCast] at hs
      have hd := Nat.mod_add_div (c + (x * w + o)) W
      rw [drop_val hky, ew]
      simp only [Int.toNat_natCast]
      have e1 : W ^ (i + (k + 1)) * ((c + (x * w + o)) / W + x * valL (y.drop (k + 1))) = W ^ (i + k) * (W * ((c + (x * w + o)) / W)) + W ^ (i + k) * (W * (x * valL (y.drop (k + 1)))) := by
        rw [show i + (k + 1) = (i + k) + 1 from rfl, Nat.pow_succ, Nat.mul_assoc, Nat.mul_add, Nat.mul_add]
      have e2 : W ^ (i + k) * (c + x * (w + W * valL (y.drop (k + 1)))) = W ^ (i + k) * (c + x * w) + W ^ (i + k) * (W * (x * valL (y.drop (k + 1)))) := by
        rw [← Nat.mul_add]; congr 1
        rw [Nat.mul_add, ← Nat.add_assoc]; congr 1
        rw [Nat.mul_left_comm]
      rw [e1, e2]
      have e3 : W ^ (i + k) * ((c + (x * w + o)) % W) + W ^ (i + k) * (W * ((c + (x * w + o)) / W)) = W ^ (i + k) * (c + x * w) + W ^ (i + k) * o := by
        rw [← Nat.mul_add, hd, ← Nat.mul_add, Nat.add_assoc]
      omega
    · rw [← u6]
      unfold inT
      rw [f24_at44235]
      have h3 : ((k : Int) < (y.length : Int)) := by omega
      have hw1 : IntKind.i64.wrap ((i : Int) + (k : Int)) = ((i + k : Nat) : Int) := by rw [wrap_i64] <;> omega
      have hw2 : IntKind.i64.wrap ((k : Int) + 1) = ((k + 1 : Nat) : Int) := by rw [wrap_i64] <;> omega
      have hw3 : IntKind.u64.wrap ((c : Int) + IntKind.u64.wrap (IntKind.u64.wrap (IntKind.u64.wrap (x : Int) * IntKind.u64.wrap (w : Int)) + IntKind.u64.wrap (o : Int))) = ((c + (x * w + o) : Nat) : Int) := by
        rw [u64_wrap (x : Int), u64_wrap (w : Int), u64_wrap (o : Int), mod_64 (by omega), mod_64 (by omega), mod_64 (by omega), ← Int.natCast_mul, u64_wrap ((x * w : Nat) : Int), mod_64 (by omega), ← Int.natCast_add, u64_wrap ((x * w + o : Nat) : Int), mod_64 (by omega), ← Int.natCast_add, u64_wrap, mod_64 hT]
      have hw4 : IntKind.u32.wrap ((c + (x * w + o) : Nat) : Int) = (((c + (x * w + o)) % W : Nat) : Int) := by rw [u32_wrap, mod_W]
      have hw5 : ((c + (x * w + o) : Nat) : Int).fdiv 4294967296 = (((c + (x * w + o)) / W : Nat) : Int) := fdiv_W _
      generalize (c + (x * w + o) : Nat) = T at hw3 hw4 hw5 ⊢
      have hb1 : (0 : Int) ≤ ((i + k : Nat) : Int) ∧ ((i + k : Nat) : Int) < (n : Int) := by omega
      have hb2 : i + k < (cellsOf out).length := by rw [cellsOf_len]; exact hj
      simp only [interp_brB, h3, decide_true, if_true, interp_ob', interp_ift', interp_asI, getI_nat, get_ints, gy, ew, Option.map_some, Option.bind_some, width_i, cells_i, beq_self_eq_true, hw1, hw2, Int.toNat_natCast, List.getElem?_cons_zero, interp_call_ret, hb1, and_self, Nat.zero_add, cellsOf_get, gj, eo, asD_d, hw3, hw4, hw5, hb2, Bool.and_true, decide_eq_true_eq, cells_set]
def outT (by_ bx : Bool) (x y : List Int) (n i : Nat) (out : List Int) : Task :=
  Task.at_ 67 0 [false, true, false, true, true] (sv 68 [(1, V.d (D.l by_ (ints .u32 y))), (5, V.m 0 0 n), (18, V.d (D.l bx (ints .u32 x))), (19, V.d (D.i .i64 (x.length : Int))), (20, V.d (D.i .i64 (i : Int)))]) [] [Ob.cells (cellsOf out) []]
theorem mul_row (by_ bx : Bool) (x y : List Int) (hx : U32 x) (hy : U32 y) (n : Nat) (hn : n = x.length + y.length + 1) (hb : n ≤ 1000000) (i : Nat) (hi : i < x.length) (out : List Int) (hu : U32 out) (hl : out.length = n) (hz : ∀ j, i + y.length ≤ j → j < out.length → out[j]? = some 0) :
    ∃ out', U32 out' ∧ out'.length = n ∧ (∀ j, (i + 1) + y.length ≤ j → j < out'.length → out'[j]? = some 0) ∧ valL out' = valL out + W ^ i * (x[i].toNat * valL y) ∧
      rk Tryd.prog pol (outT by_ bx x y n i out) = rk Tryd.prog pol (outT by_ bx x y n (i + 1) out') := by
  have gx := List.getElem?_eq_getElem hi
  obtain ⟨a, ea, ha32⟩ := hx.get hi
  obtain ⟨c', o', u1, u2, u3, u4, u5, u6⟩ := mul_inner_loop a ha32 bx by_ by_ (ints .u32 x) y hy i n (by omega) hb (x.length : Int) (i : Int) y.length 0 0 out (by omega) hu hl (by decide) hz
  have hj : i + y.length < o'.length := by omega
  refine ⟨o'.set (i + y.length) (c' : Int), u1.set _ u3, by simpa using u2, fun j h1 h2 => ?_, ?_, ?_⟩
  · rw [List.getElem?_set_ne (by omega)]
    exact u4 j (by omega) (by simpa using h2)
  · have hs := val_set o' (i + y.length) (c' : Int) hj
    have h0 : o'[i + y.length] = 0 := by
      have := u4 (i + y.length) (Nat.le_refl _) hj
      rw [List.getElem?_eq_getElem hj] at this
      exact Option.some.inj this
    rw [h0] at hs
    simp only [Int.toNat_natCast, Int.toNat_zero, Nat.mul_zero, Nat.add_zero] at hs
    rw [hs, u5, List.drop_zero, Nat.add_zero, Nat.zero_add, ea, Int.toNat_natCast]
  · have e1 : rk Tryd.prog pol (outT by_ bx x y n i out) = rk Tryd.prog pol (inT by_ bx by_ (ints .u32 x) y n i a 0 (x.length : Int) (i : Int) 0 out) := by
      unfold outT inT
      rw [f24_at43]
      have h3 : ((i : Int) < (x.length : Int)) := by omega
      simp [h3, gx, ea]
    rw [e1, u6]
    unfold inT outT
    rw [f24_at44235]
    have h3 : ¬ ((y.length : Int) < (y.length : Int)) := by omega
    have hw1 : IntKind.i64.wrap ((i : Int) + (y.length : Int)) = ((i + y.length : Nat) : Int) := by rw [wrap_i64] <;> omega
    have hw2 : IntKind.i64.wrap ((i : Int) + 1) = ((i + 1 : Nat) : Int) := by rw [wrap_i64] <;> omega
    have hw4 : IntKind.u32.wrap (c' : Int) = (c' : Int) := by rw [u32_wrap, mod_32 u3]
    have hb1 : (0 : Int) ≤ ((i + y.length : Nat) : Int) ∧ ((i + y.length : Nat) : Int) < (n : Int) := by omega
    have hb2 : i + y.length < (cellsOf o').length := by rw [cellsOf_len]; exact hj
    simp only [interp_brB, h3, decide_false, Bool.false_eq_true, if_false, interp_ift', len_ints, hw1, hw2, hw4, Int.toNat_natCast, interp_call_ret, hb1, and_self, decide_true, if_true, Nat.zero_add, hb2, Bool.and_true, decide_eq_true_eq, cells_set]
theorem mul_outer (by_ bx : Bool) (x y : List Int) (hx : U32 x) (hy : U32 y) (n : Nat) (hn : n = x.length + y.length + 1) (hb : n ≤ 1000000) : ∀ (d i : Nat) (out : List Int), i + d = x.length → U32 out → out.length = n → (∀ j, i + y.length ≤ j → j < out.length → out[j]? = some 0) → valL out = valL (x.take i) * valL y →
    rk Tryd.prog pol (outT by_ bx x y n i out) = some (.d (.l (nb (valL x * valL y)) (ws (valL x * valL y))), []) := by
  intro d
  induction d with
  | zero =>
    intro i out hi hu hl hz hv
    have hix : i = x.length := by omega
    subst hix
    rw [List.take_length] at hv
    unfold outT
    rw [f24_at43]
    have h3 : ¬ ((x.length : Int) < (x.length : Int)) := by omega
    have hc := cutm_run out hu (by omega)
    rw [hl, hv, nl_ws] at hc
    simp [hc]
  | succ d ih =>
    intro i out hi hu hl hz hv
    have hix : i < x.length := by omega
    obtain ⟨o', u1, u2, u3, u4, u5⟩ := mul_row by_ bx x y hx hy n hn hb i hix out hu hl hz
    rw [u5]
    refine ih (i + 1) o' (by omega) u1 u2 u3 ?_
    rw [u4, hv, List.take_add_one, List.getElem?_eq_getElem hix, val_append]
    simp only [Option.toList_some, valL, Nat.mul_zero, Nat.add_zero, List.length_take, Nat.min_eq_left (Nat.le_of_lt hix)]
    rw [Nat.add_mul, Nat.mul_assoc]
theorem val_replicate (n : Nat) : valL (List.replicate n 0) = 0 := by
  induction n with
  | zero => rfl
  | succ n ih => simp [List.replicate_succ, valL, ih]
theorem cells_replicate (n : Nat) : List.replicate n (V.d (D.i .u32 0)) = cellsOf (List.replicate n 0) := by simp [cellsOf, ints]
theorem mul_ws (b c : Bool) (x y : Nat) (hx : Fits x) (hy : Fits y) : rk Tryd.prog pol (Task.call 67 [V.d (D.l b (ws x)), V.d (D.l c (ws y))] []) = some (.d (.l (nb (x * y)) (ws (x * y))), []) := by
  rw [f24]
  have lx := hx.len
  have ly := hy.len
  have h := mul_outer c b (limbs x) (limbs y) (limbs_u32 x) (limbs_u32 y) ((limbs x).length + (limbs y).length + 1) rfl (by omega) (limbs x).length 0 (List.replicate ((limbs x).length + (limbs y).length + 1) 0) (by omega)
    (fun z hz => by rw [List.mem_replicate] at hz; omega) (by simp) (fun j _ hj => by simp at hj; simp [hj]) (by rw [val_replicate]; simp [valL])
  rw [val_limbs, val_limbs] at h
  unfold outT at h
  rw [← cells_replicate, Int.natCast_zero] at h
  have hw1 : IntKind.i64.wrap (((limbs x).length : Int) + ((limbs y).length : Int)) = (((limbs x).length + (limbs y).length : Nat) : Int) := by rw [wrap_i64] <;> omega
  have hw2 : IntKind.i64.wrap ((((limbs x).length + (limbs y).length : Nat) : Int) + 1) = (((limbs x).length + (limbs y).length + 1 : Nat) : Int) := by rw [wrap_i64] <;> omega
  have c1 : (0 : Int) ≤ (((limbs x).length + (limbs y).length + 1 : Nat) : Int) := by omega
  have c2 : (((limbs x).length + (limbs y).length + 1 : Nat) : Int) ≤ 4294967296 := by omega
  simp only [ws_len, hw1, hw2, interp_ift', decide_eq_true c1, decide_eq_true c2, decide_true, if_true, Int.toNat_natCast, interp_call_ret]
  exact h
end Go.Dn.Dec
namespace Go.Dn.Dec
open Go.Proofs
theorem add_step (b_0 b_2 b_5 : Bool) (y x : List Int) (out : List Int) (i : Nat) (T : Nat) (hl : out.length = i) (hi : i ≤ 100000) (R : Option Out)
    (h : rk Tryd.prog pol (Task.at_ 100 0 [false, true, false, true, true, true, true]
      (sv 56 [(1, V.d (D.l b_0 (ints .u32 y))), (5, V.d (D.l false (ints .u32 (out ++ [((T % W : Nat) : Int)])))), (6, V.d (D.i .u64 ((T / W : Nat) : Int))), (20, V.d (D.l b_5 (ints .u32 x))), (21, V.d (D.i .i64 (x.length : Int))), (22, V.d (D.i .i64 ((i + 1 : Nat) : Int)))]) [(5, 1)] []) = R) :
    rk Tryd.prog pol (Task.at_ 100 0 [true, true, true, false, false, true, true, false, false, true, false, true, true, true, true]
      (sv 56 [(1, V.d (D.l b_0 (ints .u32 y))), (5, V.d (D.l b_2 (ints .u32 out))), (6, V.d (D.i .u64 (T : Int))), (20, V.d (D.l b_5 (ints .u32 x))), (21, V.d (D.i .i64 (x.length : Int))), (22, V.d (D.i .i64 (i : Int)))]) [(5, 1)] []) = R := by
  rw [f50_at62255]
  have hw2 : IntKind.u32.wrap (T : Int) = ((T % W : Nat) : Int) := by rw [u32_wrap, mod_W]
  have hw3 : (T : Int).fdiv 4294967296 = ((T / W : Nat) : Int) := fdiv_W _
  have hw : IntKind.i64.wrap ((i : Int) + 1) = ((i + 1 : Nat) : Int) := by rw [wrap_i64] <;> omega
  have hle : out.length + 1 ≤ 4294967296 := by omega
  simp only [head_ints, interp_ift', if_true, Bool.or_true, len_ints, decide_eq_true hle, hw2, hw3, hw, ints_snoc, Bool.and_false, interp_call_ret]
  exact h
theorem add_loop (b_0 b_5 : Bool) (y x : List Int) (hx : U32 x) (hy : U32 y) (hb : x.length ≤ 100000) (hyx : y.length ≤ x.length) : ∀ (d i : Nat) (b1 : Bool) (out : List Int) (c : Nat), i + d = x.length → U32 out → out.length = i → c < 4294967296 →
    rk Tryd.prog pol (Task.at_ 100 0 [false, true, false, true, true, true, true]
      (sv 56 [(1, V.d (D.l b_0 (ints .u32 y))), (5, V.d (D.l b1 (ints .u32 out))), (6, V.d (D.i .u64 (c : Int))), (20, V.d (D.l b_5 (ints .u32 x))), (21, V.d (D.i .i64 (x.length : Int))), (22, V.d (D.i .i64 (i : Int)))]) [(5, 1)] []) =
    some (.d (nl (valL out + W ^ i * (c + valL (x.drop i) + valL (y.drop i)))), []) := by
  intro d
  induction d with
  | zero =>
    intro i b1 out c hi hu hl hc
    rw [f50_at175]
    have h3 : ¬ ((i : Int) < (x.length : Int)) := by omega
    have hd : x.drop i = [] := List.drop_eq_nil_of_le (by omega)
    have hd2 : y.drop i = [] := List.drop_eq_nil_of_le (by omega)
    have hw : IntKind.u32.wrap (c : Int) = (c : Int) := by rw [u32_wrap, mod_32 hc]
    have hcut := cut_run false (out ++ [(c : Int)]) (hu.snoc hc) (by simp; omega)
    have hv : valL (out ++ [(c : Int)]) = valL out + W ^ i * (c + valL (x.drop i) + valL (y.drop i)) := by
      rw [val_append, hl, hd, hd2]; simp [valL]
    rw [hv] at hcut
    have hlen : i ≤ 4294967295 := by omega
    simp [h3, hw, hl, hlen, ints_snoc, hcut, nl]
  | succ d ih =>
    intro i b1 out c hi hu hl hc
    have hxi : i < x.length := by omega
    have gx := List.getElem?_eq_getElem hxi
    obtain ⟨u, eu, hu32⟩ := hx.get hxi
    have h3 : ((i : Int) < (x.length : Int)) := by omega
    have hw1 : IntKind.u64.wrap ((c : Int) + IntKind.u64.wrap (u : Int)) = ((c + u : Nat) : Int) := by
      rw [u64_wrap (u : Int), mod_64 (by omega), ← Int.natCast_add, u64_wrap, mod_64 (by omega)]
    have key : ∀ T : Nat, T < 18446744073709551616 → (W ^ i * (T + W * (valL (x.drop (i + 1)) + valL (y.drop (i + 1)))) = W ^ i * (c + valL (x.drop i) + valL (y.drop i))) →
        rk Tryd.prog pol (Task.at_ 100 0 [true, true, true, false, false, true, true, false, false, true, false, true, true, true, true]
      (sv 56 [(1, V.d (D.l b_0 (ints .u32 y))), (5, V.d (D.l b1 (ints .u32 out))), (6, V.d (D.i .u64 (T : Int))), (20, V.d (D.l b_5 (ints .u32 x))), (21, V.d (D.i .i64 (x.length : Int))), (22, V.d (D.i .i64 (i : Int)))]) [(5, 1)] []) =
      some (.d (nl (valL out + W ^ i * (c + valL (x.drop i) + valL (y.drop i)))), []) := by
      intro T hT hv
      have hmod : T % W < 4294967296 := Nat.mod_lt _ W_pos
      have hdiv : T / W < 4294967296 := by unfold W; omega
      refine add_step b_0 b1 b_5 y x out i T hl (by omega) _ ?_
      rw [ih (i + 1) false (out ++ [((T % W : Nat) : Int)]) (T / W) (by omega) (hu.snoc hmod) (by simp [hl]) hdiv]
      congr 4
      rw [val_append, hl, ← hv]
      simp only [valL, Int.toNat_natCast, Nat.mul_zero, Nat.add_zero]
      rw [Nat.pow_succ, Nat.add_assoc, Nat.mul_assoc, ← Nat.mul_add]
      congr 2
      have := Nat.mod_add_div T W
      rw [Nat.add_assoc, Nat.mul_add, ← Nat.add_assoc, this]
    rw [f50_at175]
    by_cases hyi : i < y.length
    · have gy := List.getElem?_eq_getElem hyi
      obtain ⟨v, ev, hv32⟩ := hy.get hyi
      have h4 : ((i : Int) < (y.length : Int)) := by omega
      have hw2 : IntKind.u64.wrap (((c + u : Nat) : Int) + IntKind.u64.wrap (v : Int)) = ((c + u + v : Nat) : Int) := by
        rw [u64_wrap (v : Int), mod_64 (by omega), ← Int.natCast_add, u64_wrap, mod_64 (by omega)]
      have hk := key (c + u + v) (by omega) (by
        rw [drop_val hxi, drop_val hyi, eu, ev]
        simp only [Int.toNat_natCast]
        congr 1
        rw [Nat.mul_add]; omega)
      generalize (c + u + v : Nat) = T at hw2 hk
      generalize (c + u : Nat) = T0 at hw1 hw2
      simp only [interp_brB, h3, h4, decide_true, if_true, interp_ob', interp_ift', interp_asI, getI_nat, get_ints, gx, gy, eu, ev, Option.map_some, Option.bind_some, width_i, cells_i, beq_self_eq_true, len_ints, hw1, hw2, Int.toNat_natCast, List.getElem?_cons_zero, interp_call_ret]
      exact hk
    · have h4 : ¬ ((i : Int) < (y.length : Int)) := by omega
      have hk := key (c + u) (by omega) (by
        rw [drop_val hxi, eu, List.drop_eq_nil_of_le (show y.length ≤ i by omega), List.drop_eq_nil_of_le (show y.length ≤ i + 1 by omega)]
        simp only [Int.toNat_natCast, valL, Nat.add_zero]
        congr 1; omega)
      generalize (c + u : Nat) = T at hw1 hk
      simp only [interp_brB, h3, h4, decide_true, decide_false, Bool.false_eq_true, if_true, if_false, interp_ob', interp_ift', interp_asI, getI_nat, get_ints, gx, eu, Option.map_some, Option.bind_some, width_i, cells_i, beq_self_eq_true, len_ints, hw1, Int.toNat_natCast, List.getElem?_cons_zero, interp_call_ret]
      exact hk
theorem add_ord (b c : Bool) (x y : Nat) (hx : Fits x) (hyx : (limbs y).length ≤ (limbs x).length) :
    rk Tryd.prog pol (Task.at_ 100 0 [true, true] (sv 56 [(0, V.d (D.l b (ws x))), (1, V.d (D.l c (ws y)))]) [] []) = some (.d (.l (nb (x + y)) (ws (x + y))), []) := by
  rw [f50_at7]
  have lx := hx.len
  have h := add_loop c b (limbs y) (limbs x) (limbs_u32 x) (limbs_u32 y) (by omega) hyx (limbs x).length 0 false [] 0 (by omega) U32.nil rfl (by decide)
  simp only [valL, Nat.pow_zero, Nat.one_mul, Nat.zero_add, List.drop_zero, val_limbs, ints_nil, Int.natCast_zero] at h
  have hw : IntKind.i64.wrap (((limbs x).length : Int) + 1) = ((limbs x).length : Int) + 1 := by rw [wrap_i64] <;> omega
  have h1 : (0 : Int) ≤ ((limbs x).length : Int) + 1 := by omega
  have h2 : ((limbs x).length : Int) + 1 ≤ 4294967296 := by omega
  simp only [ws_len, hw, interp_ift', decide_eq_true h1, decide_eq_true h2, if_true, interp_call_ret]
  exact h
theorem add_ws (b c : Bool) (x y : Nat) (hx : Fits x) (hy : Fits y) : rk Tryd.prog pol (Task.call 100 [V.d (D.l b (ws x)), V.d (D.l c (ws y))] []) = some (.d (.l (nb (x + y)) (ws (x + y))), []) := by
  rw [f50]
  by_cases h : (limbs x).length < (limbs y).length
  · have hi : ((limbs x).length : Int) < ((limbs y).length : Int) := by omega
    have := add_ord c b y x hy (by omega)
    rw [Nat.add_comm] at this
    simp only [ws_len, interp_brB, decide_eq_true hi, if_true, interp_call_ret, this]
  · have hi : ¬ ((limbs x).length : Int) < ((limbs y).length : Int) := by omega
    have := add_ord b c x y hx (by omega)
    simp only [ws_len, interp_brB, decide_eq_false hi, Bool.false_eq_true, if_false, interp_call_ret, this]
end Go.Dn.Dec
namespace Go.Dn.Dec
open Go.Proofs
theorem cut_ws (b : Bool) (x : Nat) (hx : Fits x) : rk Tryd.prog pol (Task.call 64 [V.d (D.l b (ws x))] []) = some (.d (.l (nb x) (ws x)), []) := by
  have := cut_run b (limbs x) (limbs_u32 x) (by have := hx.len; omega)
  rw [val_limbs] at this; exact this
theorem or_nat {a b : Nat} (ha : a < 18446744073709551616) (hb : b < 18446744073709551616) : ((BitVec.ofInt 64 (a : Int) ||| BitVec.ofInt 64 (b : Int)).toNat) = a ||| b := by
  rw [BitVec.toNat_or, BitVec.ofInt_natCast, BitVec.ofInt_natCast, BitVec.toNat_ofNat, BitVec.toNat_ofNat, Nat.mod_eq_of_lt (by simpa using ha), Nat.mod_eq_of_lt (by simpa using hb)]
theorem or_add {c a k : Nat} (h : c < 2 ^ k) : c ||| (a * 2 ^ k) = c + a * 2 ^ k := by
  rw [Nat.or_comm, Nat.mul_comm a, ← Nat.two_pow_add_eq_or_of_lt h, Nat.add_comm]
theorem tmod_nat (n m : Nat) : (n : Int).tmod (m : Int) = ((n % m : Nat) : Int) := (Int.ofNat_tmod n m).symm
theorem tdiv_nat (n m : Nat) : (n : Int).tdiv (m : Int) = ((n / m : Nat) : Int) := (Int.ofNat_tdiv n m).symm
theorem shl_loop (n : Nat) (b : Bool) (x : List Int) (hx : U32 x) (hb : x.length ≤ 100000) (q : Nat) (hq : q ≤ 500000) : ∀ (d i : Nat) (b1 : Bool) (out : List Int) (c : Nat), i + d = x.length → U32 out → out.length = q + i → c < 2 ^ (n % 32) →
    rk Tryd.prog pol (Task.at_ 63 0 [false, true, false, true, true, true, true, true]
      (sv 65 [(1, V.d (D.i .i64 (n : Int))), (5, V.d (D.l b1 (ints .u32 out))), (6, V.d (D.i .u64 (c : Int))), (38, V.d (D.l b (ints .u32 x))), (39, V.d (D.i .i64 (x.length : Int))), (40, V.d (D.i .i64 (i : Int)))]) [(5, 1)] []) =
    some (.d (nl (valL out + W ^ (q + i) * (c + valL (x.drop i) * 2 ^ (n % 32)))), []) := by
  have hk : n % 32 < 32 := Nat.mod_lt _ (by decide)
  have h2k : 2 ^ (n % 32) ≤ 2147483648 := Nat.le_trans (Nat.pow_le_pow_right (by decide) (show n % 32 ≤ 31 by omega)) (by decide)
  have h2p : 0 < 2 ^ (n % 32) := Nat.pow_pos (by decide)
  intro d
  induction d with
  | zero =>
    intro i b1 out c hi hu hl hc
    rw [f53_at351]
    have h3 : ¬ ((i : Int) < (x.length : Int)) := by omega
    have hd : x.drop i = [] := List.drop_eq_nil_of_le (by omega)
    have hc' : c < 4294967296 := by omega
    have hw : IntKind.u32.wrap (c : Int) = (c : Int) := by rw [u32_wrap, mod_32 hc']
    have hcut := cut_run false (out ++ [(c : Int)]) (hu.snoc hc') (by simp; omega)
    have hv : valL (out ++ [(c : Int)]) = valL out + W ^ (q + i) * (c + valL (x.drop i) * 2 ^ (n % 32)) := by
      rw [val_append, hl, hd]; simp [valL]
    rw [hv] at hcut
    have hlen : q + i + 1 ≤ 4294967296 := by omega
    simp only [interp_brB, h3, decide_false, Bool.false_eq_true, if_false, interp_ift', head_ints, if_true, Bool.or_true, len_ints, hl, decide_eq_true hlen, hw, ints_snoc, Bool.and_false, interp_call', hcut, Option.bind_some, List.isEmpty_nil]
    simp [nl]
  | succ d ih =>
    intro i b1 out c hi hu hl hc
    rw [f53_at351]
    have hxi : i < x.length := by omega
    have gx := List.getElem?_eq_getElem hxi
    obtain ⟨a, ea, ha32⟩ := hx.get hxi
    have h3 : ((i : Int) < (x.length : Int)) := by omega
    have hle : q + i + 1 ≤ 4294967296 := by omega
    have hak : a * 2 ^ (n % 32) ≤ 4294967295 * 2147483648 := Nat.mul_le_mul (by omega) h2k
    have hm : (n : Int).tmod 32 = ((n % 32 : Nat) : Int) := tmod_nat n 32
    have hmin : min (n % 32) 64 = n % 32 := Nat.min_eq_left (by omega)
    have hw0 : IntKind.u64.wrap (IntKind.u64.wrap (a : Int) * 2 ^ (n % 32)) = ((a * 2 ^ (n % 32) : Nat) : Int) := by
      rw [u64_wrap (a : Int), mod_64 (by omega)]
      have : (a : Int) * 2 ^ (n % 32) = ((a * 2 ^ (n % 32) : Nat) : Int) := by simp
      rw [this, u64_wrap, mod_64 (by omega)]
    have hor : ((BitVec.ofInt IntKind.u64.bits (c : Int) ||| BitVec.ofInt IntKind.u64.bits ((a * 2 ^ (n % 32) : Nat) : Int)).toNat) = c + a * 2 ^ (n % 32) := by
      have := or_nat (a := c) (b := a * 2 ^ (n % 32)) (by omega) (by omega)
      rw [or_add hc] at this
      exact this
    have hw1 : IntKind.u64.wrap ((c + a * 2 ^ (n % 32) : Nat) : Int) = ((c + a * 2 ^ (n % 32) : Nat) : Int) := by rw [u64_wrap, mod_64 (by omega)]
    have hw2 : IntKind.u32.wrap ((c + a * 2 ^ (n % 32) : Nat) : Int) = (((c + a * 2 ^ (n % 32)) % W : Nat) : Int) := by rw [u32_wrap, mod_W]
    have hw3 : ((c + a * 2 ^ (n % 32) : Nat) : Int).fdiv 4294967296 = (((c + a * 2 ^ (n % 32)) / W : Nat) : Int) := fdiv_W _
    have hw : IntKind.i64.wrap ((i : Int) + 1) = ((i + 1 : Nat) : Int) := by rw [wrap_i64] <;> omega
    have hmod : (c + a * 2 ^ (n % 32)) % W < 4294967296 := Nat.mod_lt _ W_pos
    have hdiv : (c + a * 2 ^ (n % 32)) / W < 2 ^ (n % 32) := by
      apply Nat.div_lt_of_lt_mul
      have : a * 2 ^ (n % 32) ≤ 4294967295 * 2 ^ (n % 32) := Nat.mul_le_mul_right _ (by omega)
      unfold W; omega
    have ih' := ih (i + 1) false (out ++ [(((c + a * 2 ^ (n % 32)) % W : Nat) : Int)]) ((c + a * 2 ^ (n % 32)) / W) (by omega) (hu.snoc hmod) (by simp [hl]; omega) hdiv
    have hval : valL (out ++ [(((c + a * 2 ^ (n % 32)) % W : Nat) : Int)]) + W ^ (q + (i + 1)) * ((c + a * 2 ^ (n % 32)) / W + valL (x.drop (i + 1)) * 2 ^ (n % 32)) = valL out + W ^ (q + i) * (c + valL (x.drop i) * 2 ^ (n % 32)) := by
      rw [val_append, hl, drop_val hxi, ea]
      simp only [valL, Int.toNat_natCast, Nat.mul_zero, Nat.add_zero]
      rw [show q + (i + 1) = (q + i) + 1 from rfl, Nat.pow_succ, Nat.add_assoc, Nat.mul_assoc, ← Nat.mul_add]
      congr 2
      have := Nat.mod_add_div (c + a * 2 ^ (n % 32)) W
      rw [Nat.mul_add, ← Nat.add_assoc, this, Nat.add_mul, Nat.mul_assoc, Nat.add_assoc]
    rw [hval, ← ints_snoc] at ih'
    have hp : (0 : Int) ≤ ((n % 32 : Nat) : Int) := by omega
    generalize (c + a * 2 ^ (n % 32) : Nat) = T at hor hw1 hw2 hw3 ih'
    simp only [interp_brB, h3, decide_true, if_true, interp_ob', interp_ift', interp_asI, getI_nat, get_ints, gx, ea, Option.map_some, Option.bind_some, width_i, cells_i, beq_self_eq_true, head_ints, Bool.or_true, len_ints, hl, decide_eq_true hle, Bool.and_false, hm, decide_eq_true hp, Int.toNat_natCast, hmin, hw0, hor, hw1, hw2, hw3, hw, List.getElem?_cons_zero, interp_call_ret]
    exact ih'
theorem W_pow (q k : Nat) : W ^ q * 2 ^ k = 2 ^ (32 * q + k) := by
  have : W = 2 ^ 32 := by decide
  rw [this, ← Nat.pow_mul, ← Nat.pow_add]
theorem ints_replicate (n : Nat) : List.replicate n (D.i .u32 0) = ints .u32 (List.replicate n 0) := by simp [ints]
theorem shl_ws (b : Bool) (x n : Nat) (hx : Fits x) (hn : n ≤ 1000000) : rk Tryd.prog pol (Task.call 63 [V.d (D.l b (ws x)), V.d (D.i .i64 (n : Int))] []) = some (.d (.l (nb (x * 2 ^ n)) (ws (x * 2 ^ n))), []) := by
  rw [f53]
  have lx := hx.len
  have hcut := cut_ws b x hx
  have h1 : ¬ ((n : Int) < IntKind.i64.wrap (-32 * IntKind.i64.wrap (((limbs x).length : Int) + 1))) := by
    rw [wrap_i64 (n := ((limbs x).length : Int) + 1) (by omega) (by omega), wrap_i64 (by omega) (by omega)]; omega
  have h2 : ¬ ((n : Int) < 0) := by omega
  by_cases h0 : x = 0
  · subst h0
    have h3 : (limbs 0).length = 0 := by rw [limbs_zero]; rfl
    rw [Nat.zero_mul]
    simp only [interp_call', hcut, Option.bind_some, List.isEmpty_nil, interp_ift', if_true, asD_d, asL_l, ws_len, interp_brB, decide_eq_false h2, Bool.false_eq_true, if_false, h3, Int.natCast_zero, beq_self_eq_true, interp_ret, ite_self]
    rw [nb_zero, ws_zero]
  · have h3 : (limbs x).length ≠ 0 := fun e => h0 ((limbs_nil_iff x).1 (List.length_eq_zero_iff.1 e))
    have h4 : (((limbs x).length : Int) == 0) = false := beq_eq_false_iff_ne.2 (by omega)
    have hd : (n : Int).tdiv 32 = ((n / 32 : Nat) : Int) := tdiv_nat n 32
    have hq : n / 32 ≤ 500000 := by clear h1; omega
    have hw1 : IntKind.i64.wrap ((n / 32 : Nat) : Int) = ((n / 32 : Nat) : Int) := by rw [wrap_i64] <;> omega
    have hw2 : IntKind.i64.wrap (((n / 32 : Nat) : Int) + ((limbs x).length : Int)) = ((n / 32 : Nat) : Int) + ((limbs x).length : Int) := by rw [wrap_i64] <;> omega
    have hw3 : IntKind.i64.wrap (((n / 32 : Nat) : Int) + ((limbs x).length : Int) + 1) = ((n / 32 : Nat) : Int) + ((limbs x).length : Int) + 1 := by rw [wrap_i64] <;> omega
    have c1 : (0 : Int) ≤ ((n / 32 : Nat) : Int) := by omega
    have c2 : ((n / 32 : Nat) : Int) ≤ ((n / 32 : Nat) : Int) + ((limbs x).length : Int) + 1 := by omega
    have c3 : ((n / 32 : Nat) : Int) + ((limbs x).length : Int) + 1 ≤ 4294967296 := by omega
    have h := shl_loop n (nb x) (limbs x) (limbs_u32 x) (by omega) (n / 32) hq (limbs x).length 0 false (List.replicate (n / 32) 0) 0 (by omega) (fun z hz => by rw [List.mem_replicate] at hz; omega) (by simp) (Nat.pow_pos (by decide))
    rw [val_replicate, Nat.zero_add, Nat.zero_add, Nat.add_zero, List.drop_zero, val_limbs, Nat.mul_left_comm, W_pow, Nat.div_add_mod, ← ints_replicate, nl_ws, Int.natCast_zero] at h
    simp only [interp_call', hcut, Option.bind_some, List.isEmpty_nil, interp_ift', if_true, asD_d, asL_l, ws_len, interp_brB, decide_eq_false h1, decide_eq_false h2, Bool.false_eq_true, if_false, h4, hd, hw1, hw2, hw3, decide_eq_true c1, decide_eq_true c2, decide_eq_true c3, Int.toNat_natCast]
    rw [show ws x = ints .u32 (limbs x) from rfl]
    rw [h]; rfl
end Go.Dn.Dec
namespace Go.Dn.Dec
open Go.Proofs
theorem ext_call {k : Nat} {g : List V → List Ob → Option Out} (h : pol.ext k = some g) (args : List V) (S : List Ob) : rk Tryd.prog pol (Task.call k args S) = g args S := by
  rw [rk_eq]
  simp only [stepK, h, interp_ob']
  cases g args S <;> simp
theorem len32_call (n : Nat) (h : n < 4294967296) : rk Tryd.prog pol (Task.call 65 [V.d (D.i .u32 (n : Int))] []) = some (.d (.i .i64 (blen n : Nat)), []) := by
  rw [ext_call (g := len32Ext) rfl]
  have h1 : (0 : Int) ≤ (n : Int) ∧ (n : Int) < 4294967296 := by omega
  simp only [len32Ext, if_pos h1, Int.toNat_natCast]
/-! ### How long numbers are -/
theorem blen_zero : blen 0 = 0 := rfl
theorem lt_blen (n : Nat) : n < 2 ^ blen n := by
  unfold blen
  split
  · subst n; decide
  · exact Nat.lt_log2_self
theorem blen_le (n : Nat) (h : n ≠ 0) : 2 ^ (blen n - 1) ≤ n := by
  unfold blen
  rw [if_neg h, Nat.add_sub_cancel]
  exact Nat.log2_self_le h
theorem blen_pos {n : Nat} (h : n ≠ 0) : 0 < blen n := by unfold blen; rw [if_neg h]; omega
theorem blen_le_iff (n k : Nat) : blen n ≤ k ↔ n < 2 ^ k := by
  constructor
  · intro h; exact Nat.lt_of_lt_of_le (lt_blen n) (Nat.pow_le_pow_right (by decide) h)
  · intro h
    by_cases h0 : n = 0
    · subst h0; simp [blen]
    · have h1 := blen_le n h0
      have h2 := blen_pos h0
      have : 2 ^ (blen n - 1) < 2 ^ k := Nat.lt_of_le_of_lt h1 h
      have := (Nat.pow_lt_pow_iff_right (show 1 < 2 by decide)).1 this
      omega
theorem blen_eq {n k : Nat} (h1 : 2 ^ k ≤ n) (h2 : n < 2 ^ (k + 1)) : blen n = k + 1 := by
  have a := (blen_le_iff n (k + 1)).2 h2
  have b : ¬ blen n ≤ k := fun h => by have := (blen_le_iff n k).1 h; omega
  omega
theorem limbs_last (n : Nat) (h : n ≠ 0) : ∃ m z : Nat, (limbs n).length = m + 1 ∧ (limbs n)[m]? = some (z : Int) ∧ z ≠ 0 ∧ z < W ∧ n / W ^ m = z := by
  induction n using Nat.strongRecOn with
  | ind n ih =>
    rw [limbs_pos h]
    by_cases h2 : n / W = 0
    · rw [h2, limbs_zero]
      have h3 : n < W := by rcases Nat.div_eq_zero_iff.1 h2 with h | h; · exact absurd h (by decide)
                            · exact h
      refine ⟨0, n, rfl, ?_, h, h3, by simp⟩
      simp [Nat.mod_eq_of_lt h3]
    · obtain ⟨m, z, a, b, c, d, e⟩ := ih (n / W) (Nat.div_lt_self (by omega) (by decide)) h2
      refine ⟨m + 1, z, by rw [List.length_cons, a], by rw [List.getElem?_cons_succ, b], c, d, ?_⟩
      rw [Nat.pow_succ, Nat.mul_comm, ← Nat.div_div_eq_div_mul, e]
theorem W_two : W = 2 ^ 32 := by decide
theorem W_pow' (m : Nat) : W ^ m = 2 ^ (32 * m) := by rw [W_two, ← Nat.pow_mul]
theorem bits_ws (b : Bool) (x : Nat) (hx : Fits x) : rk Tryd.prog pol (Task.call 33 [V.d (D.l b (ws x))] []) = some (.d (.i .i64 (blen x : Nat)), []) := by
  rw [f34]
  have lx := hx.len
  have hcut := cut_ws b x hx
  by_cases h0 : x = 0
  · subst h0
    simp [hcut, limbs_zero, blen]
  · obtain ⟨m, z, a, g, c, d, e⟩ := limbs_last x h0
    have h4 : ((((limbs x).length : Nat) : Int) == 0) = false := beq_eq_false_iff_ne.2 (by omega)
    have hw : IntKind.i64.wrap (((limbs x).length : Int) - 1) = (m : Int) := by rw [wrap_i64] <;> omega
    have hz := len32_call z d
    have hlen : blen x = 32 * m + blen z := by
      have hb := blen_pos c
      have h1 := blen_le z c
      have h2 := lt_blen z
      have e1 : 2 ^ (32 * m + (blen z - 1)) ≤ x := by
        rw [Nat.pow_add, ← W_pow']
        have : W ^ m * z ≤ x := by rw [← e]; exact Nat.mul_div_le x (W ^ m)
        exact Nat.le_trans (Nat.mul_le_mul_left _ h1) this
      have e2 : x < 2 ^ (32 * m + (blen z - 1) + 1) := by
        rw [show 32 * m + (blen z - 1) + 1 = 32 * m + blen z by omega, Nat.pow_add, ← W_pow']
        have : x < W ^ m * (z + 1) := by
          rw [← e]; exact Nat.lt_mul_div_succ x (Nat.pow_pos W_pos)
        exact Nat.lt_of_lt_of_le this (Nat.mul_le_mul_left _ h2)
      rw [blen_eq e1 e2]; omega
    have hbz : blen z ≤ 32 := (blen_le_iff z 32).2 d
    have hw2 : IntKind.i64.wrap (32 * (m : Int)) = 32 * (m : Int) := by rw [wrap_i64] <;> omega
    have hw3 : IntKind.i64.wrap (32 * (m : Int) + (blen z : Int)) = (blen x : Int) := by rw [wrap_i64] <;> omega
    have hg : (ws x)[m]? = some (D.i .u32 (z : Int)) := by rw [ws, get_ints, g]; rfl
    simp only [interp_call', hcut, Option.bind_some, List.isEmpty_nil, interp_ift', if_true, asD_d, asL_l, ws_len, interp_brB, h4, Bool.false_eq_true, if_false, hw, getI_nat, hg, interp_ob', width_i, beq_self_eq_true, Int.toNat_natCast, cells_i, List.getElem?_cons_zero, interp_asI, hz, hw2, hw3, interp_ret]
/-! ### Cmp -/
def cmpN (x y : Nat) : Int := if x < y then -1 else if y < x then 1 else 0
theorem take_val (a : List Int) (i : Nat) (h : i < a.length) : valL (a.take (i + 1)) = valL (a.take i) + W ^ i * a[i].toNat := by
  rw [List.take_add_one, List.getElem?_eq_getElem h, val_append, List.length_take, Nat.min_eq_left (by omega)]
  simp [valL]
theorem lex_lt {i p q x y : Nat} (hp : p < W ^ i) (h : x < y) : p + W ^ i * x < q + W ^ i * y := by
  have h1 : W ^ i * (x + 1) ≤ W ^ i * y := Nat.mul_le_mul_left _ h
  rw [Nat.mul_add, Nat.mul_one] at h1
  omega
theorem cmp_loop (b_0 b_2 : Bool) (a c : List Int) (ha : U32 a) (hc : U32 c) (hb : a.length ≤ 100000) (hac : a.length = c.length) : ∀ i : Nat, i ≤ a.length →
    rk Tryd.prog pol (Task.at_ 66 0 [false, true, false, true, true, true] (sv 49 [(0, V.d (D.l b_0 (ints .u32 a))), (1, V.d (D.l b_2 (ints .u32 c))), (5, V.d (D.i .i64 ((i : Int) - 1)))]) [] []) =
      some (.d (.i .i64 (cmpN (valL (a.take i)) (valL (c.take i)))), [])
  | 0, hi => by
    rw [f62_at87]
    simp [cmpN]
  | i + 1, hi => by
    rw [f62_at87]
    have ih := cmp_loop b_0 b_2 a c ha hc hb hac i (by omega)
    have hia : i < a.length := by omega
    have hic : i < c.length := by omega
    obtain ⟨u, eu, hu⟩ := ha.get hia
    obtain ⟨v, ev, hv⟩ := hc.get hic
    have ga : a[i]? = some (u : Int) := by rw [List.getElem?_eq_getElem hia, eu]
    have gc : c[i]? = some (v : Int) := by rw [List.getElem?_eq_getElem hic, ev]
    have pa := val_lt (ha.take i)
    have pc := val_lt (hc.take i)
    rw [List.length_take, Nat.min_eq_left (by omega)] at pa pc
    have e0 : (((i + 1 : Nat) : Int) - 1) = (i : Int) := by omega
    have h0 : (i : Int) ≥ 0 := by omega
    have hw : IntKind.i64.wrap ((i : Int) - 1) = (i : Int) - 1 := by rw [wrap_i64] <;> omega
    rw [e0, take_val a i hia, take_val c i hic, eu, ev]
    simp only [Int.toNat_natCast]
    generalize valL (a.take i) = p at *
    generalize valL (c.take i) = q at *
    rcases Nat.lt_trichotomy u v with h | h | h
    · have h1 : (u : Int) < (v : Int) := by omega
      have h2 : cmpN (p + W ^ i * u) (q + W ^ i * v) = -1 := by
        unfold cmpN; rw [if_pos (lex_lt pa h)]
      simp [h0, ga, gc, h1, h2]
    · subst h
      have h2 : cmpN (p + W ^ i * u) (q + W ^ i * u) = cmpN p q := by
        unfold cmpN; congr 1
        · exact propext (by omega)
        · congr 1; exact propext (by omega)
      rw [h2]
      simp [h0, ga, gc, hw, ih]
    · have h1 : ¬ (u : Int) < (v : Int) := by omega
      have h1' : (v : Int) < (u : Int) := by omega
      have h2 : cmpN (p + W ^ i * u) (q + W ^ i * v) = 1 := by
        have := lex_lt (q := p) pc h
        unfold cmpN; rw [if_neg (by omega), if_pos this]
      simp [h0, ga, gc, h1, h1', h2]
theorem limbs_lt_len (n : Nat) : n < W ^ (limbs n).length := by
  have := val_lt (limbs_u32 n)
  rwa [val_limbs] at this
theorem limbs_le_len (n : Nat) (h : n ≠ 0) : W ^ ((limbs n).length - 1) ≤ n := by
  obtain ⟨m, z, a, g, c, d, e⟩ := limbs_last n h
  rw [a, Nat.add_sub_cancel]
  have : W ^ m * z ≤ n := by rw [← e]; exact Nat.mul_div_le n (W ^ m)
  exact Nat.le_trans (Nat.le_mul_of_pos_right _ (by omega)) this
theorem len_lt {x y : Nat} (h : (limbs x).length < (limbs y).length) : x < y := by
  have h1 := limbs_lt_len x
  have hy : y ≠ 0 := fun e => by rw [e, limbs_zero] at h; simp at h
  have h2 := limbs_le_len y hy
  have : W ^ (limbs x).length ≤ W ^ ((limbs y).length - 1) := Nat.pow_le_pow_right W_pos (by omega)
  omega
theorem cmp_ws (b c : Bool) (x y : Nat) (hx : Fits x) (hy : Fits y) : rk Tryd.prog pol (Task.call 66 [V.d (D.l b (ws x)), V.d (D.l c (ws y))] []) = some (.d (.i .i64 (cmpN x y)), []) := by
  rw [f62]
  have lx := hx.len
  have ly := hy.len
  have c1 := cut_ws b x hx
  have c2 := cut_ws c y hy
  simp only [interp_call', c1, c2, Option.bind_some, List.isEmpty_nil, interp_ift', if_true, asD_d, asL_l, ws_len, interp_brB, decide_eq_true_eq]
  by_cases h1 : (limbs x).length < (limbs y).length
  · have := len_lt h1
    rw [if_pos (by omega), cmpN, if_pos this]; rfl
  · by_cases h2 : (limbs y).length < (limbs x).length
    · have := len_lt h2
      rw [if_neg (by omega), if_pos (by omega), cmpN, if_neg (by omega), if_pos this]; rfl
    · have h3 : (limbs x).length = (limbs y).length := by omega
      have := cmp_loop (nb x) (nb y) (limbs x) (limbs y) (limbs_u32 x) (limbs_u32 y) (by omega) h3 (limbs x).length (Nat.le_refl _)
      rw [List.take_length, h3, List.take_length, val_limbs, val_limbs] at this
      have hw : IntKind.i64.wrap (((limbs y).length : Int) - 1) = ((limbs y).length : Int) - 1 := by rw [wrap_i64] <;> omega
      rw [if_neg (by omega), if_neg (by omega), h3, hw, ws, ws, this]
      rfl
/-! ### Low -/
theorem low_ws (b : Bool) (x : Nat) (hx : Fits x) : rk Tryd.prog pol (Task.call 70 [V.d (D.l b (ws x))] []) = some (.d (.i .u64 ((x % 18446744073709551616 : Nat) : Int)), []) := by
  have step : ∀ n_2 : Int, ∀ n_3 : Int, ∀ i : Nat, (i : Int) < n_3 → i ≤ 1 → ∀ u : Nat, (limbs x)[i]? = some (u : Int) → 
     rk Tryd.prog pol (Task.at_ 70 0 [false, true, false, true, true] (sv 23 [(0, V.d (D.l b (ws x))), (3, V.d (D.i IntKind.u64 n_2)), (7, V.d (D.i IntKind.i64 n_3)), (8, V.d (D.i IntKind.i64 (i : Int)))]) [] []) =
     rk Tryd.prog pol (Task.at_ 70 0 [false, true, false, true, true] (sv 23 [(0, V.d (D.l b (ws x))), (3, V.d (D.i IntKind.u64 (IntKind.u64.wrap (((BitVec.ofInt IntKind.u64.bits n_2 ||| BitVec.ofInt IntKind.u64.bits (IntKind.u64.wrap (IntKind.u64.wrap (u : Int) * 2 ^ (32 * i)))).toNat : Nat) : Int)))), (7, V.d (D.i IntKind.i64 n_3)), (8, V.d (D.i IntKind.i64 ((i + 1 : Nat) : Int)))]) [] []) := by
    intro n_2 n_3 i hi hi1 u hu
    rw [f56_at43]
    have hg : (ws x)[i]? = some (D.i .u32 (u : Int)) := by rw [ws, get_ints, hu]; rfl
    have hw : IntKind.i64.wrap (32 * (i : Int)) = ((32 * i : Nat) : Int) := by rw [wrap_i64] <;> omega
    have hw1 : IntKind.i64.wrap ((i : Int) + 1) = ((i + 1 : Nat) : Int) := by rw [wrap_i64] <;> omega
    have hp : (0 : Int) ≤ ((32 * i : Nat) : Int) := by omega
    have hm : min (32 * i) 64 = 32 * i := by omega
    simp only [interp_brB, decide_eq_true hi, if_true, interp_ob', getI_nat, hg, Option.bind_some, width_i, beq_self_eq_true, interp_ift', Int.toNat_natCast, cells_i, List.getElem?_cons_zero, interp_asI, hw, hw1, decide_eq_true hp, hm, interp_call_ret]
  have fin : ∀ n_2 : Int, ∀ n : Int, rk Tryd.prog pol (Task.at_ 70 0 [false, true, false, true, true] (sv 23 [(0, V.d (D.l b (ws x))), (3, V.d (D.i IntKind.u64 n_2)), (7, V.d (D.i IntKind.i64 n)), (8, V.d (D.i IntKind.i64 n))]) [] []) = some (.d (.i .u64 n_2), []) := by
    intro n_2 n
    rw [f56_at43]
    have : ¬ n < n := by omega
    simp [this]
  rw [f56, ws_len, interp_call_ret]
  by_cases h0 : x = 0
  · subst h0
    rw [limbs_zero]
    exact fin 0 0
  · have e0 := limbs_pos h0
    have hm := Nat.mod_lt x W_pos
    have hmd := Nat.mod_add_div x W
    have s1 := step 0
    by_cases h1 : x / W = 0
    · rw [h1, limbs_zero] at e0
      have hx1 : x < W := by rw [h1, Nat.mul_zero] at hmd; omega
      have := s1 1 0 (by decide) (by decide) (x % W) (by rw [e0]; rfl)
      rw [e0]
      refine Eq.trans this ?_
      rw [Nat.mod_eq_of_lt hx1]
      have hW : x < 4294967296 := hx1
      have hv : IntKind.u64.wrap (((BitVec.ofInt IntKind.u64.bits 0 ||| BitVec.ofInt IntKind.u64.bits (IntKind.u64.wrap (IntKind.u64.wrap (x : Int) * 2 ^ (32 * 0)))).toNat : Nat) : Int) = ((x % 18446744073709551616 : Nat) : Int) := by
        rw [Nat.mul_zero, Int.pow_zero, Int.mul_one, u64_wrap (x : Int), mod_64 (by omega), u64_wrap (x : Int), mod_64 (by omega)]
        have := or_nat (a := 0) (b := x) (by decide) (by omega)
        have h2 : (BitVec.ofInt IntKind.u64.bits 0 ||| BitVec.ofInt IntKind.u64.bits (x : Int)).toNat = 0 ||| x := this
        rw [h2, Nat.zero_or, u64_wrap]; omega
      rw [hv]
      exact fin _ 1
    · have e1 := limbs_pos h1
      rw [e1] at e0
      have hm2 := Nat.mod_lt (x / W) W_pos
      have hl : 2 ≤ (limbs x).length := by rw [e0]; simp
      have hmin : (if (2 : Int) < ((limbs x).length : Int) then (2 : Int) else ((limbs x).length : Int)) = 2 := by split <;> omega
      rw [hmin]
      have a1 := s1 2 0 (by decide) (by decide) (x % W) (by rw [e0]; rfl)
      refine Eq.trans a1 ?_
      have a2 := step (IntKind.u64.wrap (((BitVec.ofInt IntKind.u64.bits 0 ||| BitVec.ofInt IntKind.u64.bits (IntKind.u64.wrap (IntKind.u64.wrap ((x % W : Nat) : Int) * 2 ^ (32 * 0)))).toNat : Nat) : Int)) 2 1 (by decide) (by decide) (x / W % W) (by rw [e0]; rfl)
      refine Eq.trans a2 ?_
      have k1 : x % W < 4294967296 := hm
      have k2 : x / W % W < 4294967296 := hm2
      have hv : IntKind.u64.wrap (((BitVec.ofInt IntKind.u64.bits 0 ||| BitVec.ofInt IntKind.u64.bits (IntKind.u64.wrap (IntKind.u64.wrap ((x % W : Nat) : Int) * 2 ^ (32 * 0)))).toNat : Nat) : Int) = ((x % W : Nat) : Int) := by
        rw [Nat.mul_zero, Int.pow_zero, Int.mul_one, u64_wrap ((x % W : Nat) : Int), mod_64 (by omega), u64_wrap ((x % W : Nat) : Int), mod_64 (by omega)]
        have := or_nat (a := 0) (b := x % W) (by decide) (by omega)
        have h2 : (BitVec.ofInt IntKind.u64.bits 0 ||| BitVec.ofInt IntKind.u64.bits ((x % W : Nat) : Int)).toNat = 0 ||| x % W := this
        rw [h2, Nat.zero_or, u64_wrap, mod_64 (by omega)]
      rw [hv]
      have hv2 : IntKind.u64.wrap (((BitVec.ofInt IntKind.u64.bits ((x % W : Nat) : Int) ||| BitVec.ofInt IntKind.u64.bits (IntKind.u64.wrap (IntKind.u64.wrap ((x / W % W : Nat) : Int) * 2 ^ (32 * 1)))).toNat : Nat) : Int) = ((x % 18446744073709551616 : Nat) : Int) := by
        have hmul : x / W % W * 2 ^ 32 < 18446744073709551616 := by
          have : x / W % W * 2 ^ 32 ≤ 4294967295 * 2 ^ 32 := Nat.mul_le_mul_right _ (by omega)
          omega
        have hc : ((x / W % W : Nat) : Int) * 2 ^ (32 * 1) = ((x / W % W * 2 ^ 32 : Nat) : Int) := by simp
        rw [u64_wrap ((x / W % W : Nat) : Int), mod_64 (by omega), hc, u64_wrap (((x / W % W * 2 ^ 32 : Nat) : Int)), mod_64 hmul]
        have := or_nat (a := x % W) (b := x / W % W * 2 ^ 32) (by omega) hmul
        rw [or_add (k := 32) (by exact k1)] at this
        have h2 : (BitVec.ofInt IntKind.u64.bits ((x % W : Nat) : Int) ||| BitVec.ofInt IntKind.u64.bits ((x / W % W * 2 ^ 32 : Nat) : Int)).toNat = x % W + x / W % W * 2 ^ 32 := this
        rw [h2, u64_wrap]
        unfold W at *
        omega
      rw [hv2]
      exact fin _ 2
end Go.Dn.Dec
namespace Go.Dn.Dec
open Go.Proofs
theorem unInts_ints (a : List Int) : unInts .u32 (ints .u32 a) = some a := by
  induction a with
  | nil => rfl
  | cons z a ih =>
    rw [ints_cons, unInts, if_pos rfl, ih]; rfl
theorem all_u32 {a : List Int} (h : U32 a) : (a.all fun z => decide (0 ≤ z) && decide (z < 4294967296)) = true := by
  rw [List.all_eq_true]
  intro z hz
  have := h z hz
  simp [this.1, this.2]
theorem sub_ws (b c : Bool) (x y : Nat) (hx : Fits x) (hy : Fits y) : rk Tryd.prog pol (Task.call 118 [V.d (D.l b (ws x)), V.d (D.l c (ws y))] []) = some (subR x y, []) := by
  rw [ext_call (g := subExt) rfl]
  have lx := hx.len
  have ly := hy.len
  simp only [subExt, ws, unInts_ints]
  rw [if_pos ⟨all_u32 (limbs_u32 x), all_u32 (limbs_u32 y), by omega, by omega⟩, val_limbs, val_limbs]
theorem limbs_get (n k : Nat) (h : k < (limbs n).length) : (limbs n)[k]? = some ((n / W ^ k % W : Nat) : Int) := by
  induction k generalizing n with
  | zero =>
    by_cases h0 : n = 0
    · subst h0; rw [limbs_zero] at h; simp at h
    · rw [limbs_pos h0]; simp
  | succ k ih =>
    by_cases h0 : n = 0
    · subst h0; rw [limbs_zero] at h; simp at h
    · rw [limbs_pos h0] at h ⊢
      rw [List.getElem?_cons_succ, ih _ (by simpa using h), Nat.pow_succ, Nat.mul_comm (W ^ k), Nat.div_div_eq_div_mul]
theorem fdiv_nat (a b : Nat) : (a : Int).fdiv (b : Int) = ((a / b : Nat) : Int) := by
  rw [Int.fdiv_eq_ediv_of_nonneg _ (by omega)]; rfl
theorem and_one {a : Nat} (h : a < 4294967296) : (BitVec.ofInt 32 (a : Int) &&& BitVec.ofInt 32 1).toNat = a % 2 := by
  rw [BitVec.toNat_and, BitVec.ofInt_natCast, BitVec.toNat_ofNat, Nat.mod_eq_of_lt (by simpa using h)]
  exact Nat.and_one_is_mod a
theorem bit_word (x i : Nat) : x / W ^ (i / 32) % W / 2 ^ (i % 32) % 2 = x / 2 ^ i % 2 := by
  have hk : i % 32 < 32 := Nat.mod_lt _ (by decide)
  have e : W = 2 ^ (i % 32) * 2 ^ (32 - i % 32) := by rw [← Nat.pow_add, show i % 32 + (32 - i % 32) = 32 by omega]; rfl
  rw [show x / W ^ (i / 32) % W = x / W ^ (i / 32) % (2 ^ (i % 32) * 2 ^ (32 - i % 32)) by rw [← e]]
  rw [Nat.mod_mul_right_div_self, Nat.mod_mod_of_dvd, Nat.div_div_eq_div_mul, W_pow', ← Nat.pow_add, Nat.div_add_mod]
  exact ⟨2 ^ (32 - i % 32 - 1), by rw [← Nat.pow_add_one']; congr 1; omega⟩
def dT (bx by_ : Bool) (x y n : Nat) (br : Bool) (r : Nat) (i : Int) (fl : List (Nat × Nat)) (qs : List Int) : Task :=
  Task.at_ 99 0 [false, true, false, true, true, true, true] (sv 64 [(0, V.d (D.l bx (ws x))), (1, V.d (D.l by_ (ws y))), (4, V.m 0 0 n), (5, V.d (D.l br (ws r))), (7, V.d (D.i .i64 i))]) fl [Ob.cells (cellsOf qs) []]
def dM (bx by_ : Bool) (x y n : Nat) (br : Bool) (r : Nat) (i : Int) (qs : List Int) : Task :=
  Task.at_ 99 0 [true, true, false, false, true, false, false, true, false, true, true, true, true] (sv 64 [(0, V.d (D.l bx (ws x))), (1, V.d (D.l by_ (ws y))), (4, V.m 0 0 n), (5, V.d (D.l br (ws r))), (7, V.d (D.i .i64 i))]) [] [Ob.cells (cellsOf qs) []]
set_option exponentiation.threshold 400000 in
theorem fits_two {r : Nat} (h : r < 2 ^ 300000) : Fits r := by
  unfold Fits
  rw [W_pow']
  exact Nat.lt_of_lt_of_le h (Nat.pow_le_pow_right (by decide) (by decide))
theorem fits_1 : Fits 1 := fits_pow (n := 0) (by decide)
theorem div_head (bx by_ br : Bool) (x y n r i : Nat) (fl : List (Nat × Nat)) (hfl : fl = [(5, 1)] ∨ fl = []) (qs : List Int) (hx : Fits x) (hi : i < 32 * (limbs x).length) (hr : Fits r) (hr2 : Fits (r * 2)) :
    rk Tryd.prog pol (dT bx by_ x y n br r (i : Int) fl qs) = rk Tryd.prog pol (dM bx by_ x y n (nb (r * 2 + x / 2 ^ i % 2)) (r * 2 + x / 2 ^ i % 2) (i : Int) qs) := by
  have lx := hx.len
  have s1 := shl_ws br r 1 hr (by decide)
  rw [Nat.pow_one] at s1
  have hc : rk Tryd.prog pol (Task.call 63 [V.d (D.l br (ws r)), V.d (D.i .i64 1)] []) = some (.d (.l (nb (r * 2)) (ws (r * 2))), []) := s1
  have hof : rk Tryd.prog pol (Task.call 62 [V.d (D.i .u64 1)] []) = some (.d (.l (nb 1) (ws 1)), []) := of_ws 1 (by decide)
  have hadd := add_ws (nb (r * 2)) (nb 1) (r * 2) 1 hr2 fits_1
  have hq : i / 32 < (limbs x).length := by omega
  have hg : (ws x)[i / 32]? = some (D.i .u32 ((x / W ^ (i / 32) % W : Nat) : Int)) := by rw [ws, get_ints, limbs_get x _ hq]; rfl
  have ha : x / W ^ (i / 32) % W < 4294967296 := Nat.mod_lt _ W_pos
  have hbw := bit_word x i
  generalize x / W ^ (i / 32) % W = a at hg ha hbw
  have ht1 : (i : Int).tdiv 32 = ((i / 32 : Nat) : Int) := tdiv_nat i 32
  have ht2 : (i : Int).tmod 32 = ((i % 32 : Nat) : Int) := tmod_nat i 32
  have hw : IntKind.i64.wrap ((i / 32 : Nat) : Int) = ((i / 32 : Nat) : Int) := by rw [wrap_i64] <;> omega
  have hmin : min (i % 32) 32 = i % 32 := by omega
  have hp : (0 : Int) ≤ ((i % 32 : Nat) : Int) := by omega
  have hi0 : (i : Int) ≥ 0 := by omega
  have hbit : IntKind.u32.wrap (((BitVec.ofInt IntKind.u32.bits ((a : Int).fdiv (2 ^ (i % 32))) &&& BitVec.ofInt IntKind.u32.bits 1).toNat : Nat) : Int) = ((x / 2 ^ i % 2 : Nat) : Int) := by
    have e : (2 : Int) ^ (i % 32) = ((2 ^ (i % 32) : Nat) : Int) := by simp
    have h32 : a / 2 ^ (i % 32) < 4294967296 := Nat.lt_of_le_of_lt (Nat.div_le_self _ _) ha
    have := and_one h32
    rw [e, fdiv_nat]
    have h2 : (BitVec.ofInt IntKind.u32.bits ((a / 2 ^ (i % 32) : Nat) : Int) &&& BitVec.ofInt IntKind.u32.bits 1).toNat = a / 2 ^ (i % 32) % 2 := this
    rw [h2, hbw, u32_wrap]; omega
  rcases hfl with rfl | rfl
  all_goals
    unfold dT
    first | rw [f74_at175] | rw [f74_at175_1]
    simp only [interp_brB, decide_eq_true hi0, if_true, interp_call', hc, Option.bind_some, List.isEmpty_nil, interp_ift', asD_d, asL_l, ht1, ht2, hw, getI_nat, hg, interp_ob', width_i, beq_self_eq_true, Int.toNat_natCast, cells_i, List.getElem?_cons_zero, interp_asI, decide_eq_true hp, hmin, hbit]
    rcases Nat.mod_two_eq_zero_or_one (x / 2 ^ i) with h | h
    · rw [h]
      have h0 : ((((0 : Nat) : Int) != 0) = true) = False := by simp
      simp only [h0, if_false, interp_ret, Nat.add_zero]
      unfold dM
      generalize rk Tryd.prog pol (Task.at_ 99 0 [true, true, false, false, true, false, false, true, false, true, true, true, true] _ _ _) = R
      cases R <;> rfl
    · rw [h]
      have h0 : ((((1 : Nat) : Int) != 0) = true) = True := by simp
      simp only [h0, if_true, hof, hadd, Option.bind_some, List.isEmpty_nil, asD_d, asL_l, interp_ift', interp_call_ret, interp_call', interp_ret]
      unfold dM
      generalize rk Tryd.prog pol (Task.at_ 99 0 [true, true, false, false, true, false, false, true, false, true, true, true, true] _ _ _) = R
      cases R <;> rfl
theorem or32 {z k : Nat} (hz : z < 4294967296) (hk : k < 32) (hd : z % 2 ^ (k + 1) = 0) : IntKind.u32.wrap (((BitVec.ofInt IntKind.u32.bits (z : Int) ||| BitVec.ofInt IntKind.u32.bits (IntKind.u32.wrap (1 * 2 ^ k))).toNat : Nat) : Int) = ((z + 2 ^ k : Nat) : Int) ∧ z + 2 ^ k < 4294967296 := by
  have h2 : 2 ^ k ≤ 2147483648 := Nat.le_trans (Nat.pow_le_pow_right (by decide) (show k ≤ 31 by omega)) (by decide)
  obtain ⟨t, ht⟩ := Nat.dvd_of_mod_eq_zero hd
  have hlt : z + 2 ^ k < 4294967296 := by
    have hW : 4294967296 = 2 ^ (k + 1) * 2 ^ (31 - k) := by rw [← Nat.pow_add, show k + 1 + (31 - k) = 32 by omega]
    have h3 : t < 2 ^ (31 - k) := by
      rw [ht, hW] at hz; exact Nat.lt_of_mul_lt_mul_left hz
    have h4 : 2 ^ (k + 1) * (t + 1) ≤ 4294967296 := by rw [hW]; exact Nat.mul_le_mul_left _ h3
    have h5 : 2 ^ (k + 1) = 2 * 2 ^ k := by rw [Nat.pow_succ, Nat.mul_comm]
    have h6 := Nat.pow_pos (n := k) (show 0 < 2 by decide)
    rw [Nat.mul_add, Nat.mul_one, ← ht] at h4
    omega
  refine ⟨?_, hlt⟩
  have e : (1 : Int) * 2 ^ k = ((2 ^ k : Nat) : Int) := by simp
  rw [e, u32_wrap (((2 ^ k : Nat)) : Int), mod_32 (by omega)]
  have h3 : (BitVec.ofInt IntKind.u32.bits (z : Int) ||| BitVec.ofInt IntKind.u32.bits ((2 ^ k : Nat) : Int)).toNat = z ||| 2 ^ k := by
    show (BitVec.ofInt 32 (z : Int) ||| BitVec.ofInt 32 ((2 ^ k : Nat) : Int)).toNat = _
    rw [BitVec.toNat_or, BitVec.ofInt_natCast, BitVec.ofInt_natCast, BitVec.toNat_ofNat, BitVec.toNat_ofNat, Nat.mod_eq_of_lt (by simpa using hz), Nat.mod_eq_of_lt (by omega)]
  have h4 : z ||| 2 ^ k = z + 2 ^ k := by
    rw [ht, ← Nat.two_pow_add_eq_or_of_lt (Nat.pow_lt_pow_right (by decide) (Nat.lt_succ_self k))]
  rw [h3, h4, u32_wrap]; omega
theorem word_of {qs : List Int} (hu : U32 qs) {q : Nat} (hq : q < qs.length) : qs[q] = ((valL qs / W ^ q % W : Nat) : Int) := by
  induction qs generalizing q with
  | nil => simp at hq
  | cons z qs ih =>
    obtain ⟨hz, hu'⟩ := U32.cons.1 hu
    have hzW : z.toNat < W := by unfold W; omega
    cases q with
    | zero => simp only [List.getElem_cons_zero, valL, Nat.pow_zero, Nat.div_one, Nat.add_mul_mod_self_left, Nat.mod_eq_of_lt hzW]; omega
    | succ q =>
      simp only [List.getElem_cons_succ, valL]
      rw [ih hu' (by simpa using hq), Nat.pow_succ, Nat.mul_comm (W ^ q), ← Nat.div_div_eq_div_mul, Nat.add_mul_div_left _ _ W_pos, Nat.div_eq_of_lt hzW, Nat.zero_add]
theorem low_zero {Q q k m : Nat} (hk : k < 32) (h : Q = 2 ^ (32 * q + k + 1) * m) : Q / W ^ q % W % 2 ^ (k + 1) = 0 := by
  rw [Nat.mod_mod_of_dvd _ ⟨2 ^ (31 - k), by rw [← Nat.pow_add, show k + 1 + (31 - k) = 32 by omega]; rfl⟩, h, W_pow', show 32 * q + k + 1 = 32 * q + (k + 1) from rfl, Nat.pow_add, Nat.mul_assoc, Nat.mul_div_cancel_left _ (Nat.pow_pos (by decide)), Nat.mul_mod_right]
theorem div_mid (bx by_ br : Bool) (x y n r i : Nat) (qs : List Int) (hr : Fits r) (hy : Fits y) (hn : n = qs.length) (hi : i < 32 * n) (hn2 : n ≤ 10000) (hu : U32 qs) (m : Nat) (hv : valL qs = 2 ^ (i + 1) * m) :
    (r < y → rk Tryd.prog pol (dM bx by_ x y n br r (i : Int) qs) = rk Tryd.prog pol (dT bx by_ x y n br r ((i : Int) - 1) [] qs)) ∧
    (y ≤ r → ∃ qs', U32 qs' ∧ qs'.length = n ∧ valL qs' = 2 ^ i * (2 * m + 1) ∧ rk Tryd.prog pol (dM bx by_ x y n br r (i : Int) qs) = rk Tryd.prog pol (dT bx by_ x y n (nb (r - y)) (r - y) ((i : Int) - 1) [] qs')) := by
  have hs := sub_ws br by_ r y hr hy
  have hw1 : IntKind.i64.wrap ((i : Int) - 1) = (i : Int) - 1 := by rw [wrap_i64] <;> omega
  constructor
  · intro h
    unfold dM dT
    rw [f74_at14639]
    rw [subR, if_pos h] at hs
    simp [hs, hw1]
  · intro h
    have hq : i / 32 < qs.length := by omega
    have hk : i % 32 < 32 := Nat.mod_lt _ (by decide)
    have hwd := word_of hu hq
    have hz : valL qs / W ^ (i / 32) % W < 4294967296 := Nat.mod_lt _ W_pos
    have hlow : valL qs / W ^ (i / 32) % W % 2 ^ (i % 32 + 1) = 0 := low_zero (q := i / 32) (m := m) hk (by rw [Nat.div_add_mod]; exact hv)
    have hval := val_set qs (i / 32) ((valL qs / W ^ (i / 32) % W + 2 ^ (i % 32) : Nat) : Int) hq
    rw [hwd, Int.toNat_natCast, Int.toNat_natCast, Nat.mul_add, W_pow (i / 32) (i % 32), Nat.div_add_mod] at hval
    have hg : qs[i / 32]? = some ((valL qs / W ^ (i / 32) % W : Nat) : Int) := by rw [List.getElem?_eq_getElem hq, hwd]
    generalize valL qs / W ^ (i / 32) % W = z at *
    obtain ⟨hor, hlt⟩ := or32 hz hk hlow
    refine ⟨qs.set (i / 32) ((z + 2 ^ (i % 32) : Nat) : Int), hu.set _ hlt, by simp [hn], ?_, ?_⟩
    · have : 2 ^ (i + 1) = 2 * 2 ^ i := by rw [Nat.pow_succ, Nat.mul_comm]
      have e : 2 ^ i * (2 * m + 1) = 2 ^ (i + 1) * m + 2 ^ i := by rw [this, Nat.mul_add, Nat.mul_one, ← Nat.mul_assoc, Nat.mul_comm (2 ^ i) 2]
      rw [e]; omega
    · unfold dM dT
      rw [f74_at14639]
      rw [subR, if_neg (by omega), nl_ws] at hs
      have ht1 : (i : Int).tdiv 32 = ((i / 32 : Nat) : Int) := tdiv_nat i 32
      have ht2 : (i : Int).tmod 32 = ((i % 32 : Nat) : Int) := tmod_nat i 32
      have hw : IntKind.i64.wrap ((i / 32 : Nat) : Int) = ((i / 32 : Nat) : Int) := by rw [wrap_i64] <;> omega
      have hmin : min (i % 32) 32 = i % 32 := by omega
      have hp : (0 : Int) ≤ ((i % 32 : Nat) : Int) := by omega
      have hb1 : (0 : Int) ≤ ((i / 32 : Nat) : Int) ∧ ((i / 32 : Nat) : Int) < (n : Int) := by omega
      have hb2 : i / 32 < (cellsOf qs).length := by rw [cellsOf_len]; exact hq
      simp only [interp_call', hs, Option.bind_some, List.isEmpty_nil, interp_ift', if_true, unT_t, List.length_cons, List.length_nil, Nat.zero_add, Nat.reduceAdd, beq_self_eq_true, List.getD_cons_zero, List.getD_cons_succ, asD_d, asL_l, asB_b, interp_brB, ht1, ht2, hw, decide_eq_true hb1, Int.toNat_natCast, cellsOf_get, hg, Option.map_some, interp_ob', interp_asI, decide_eq_true hp, decide_eq_true hb2, Bool.and_true, hmin, hor, hw1, cells_set, interp_ret]
      generalize rk Tryd.prog pol (Task.at_ 99 0 [false, true, false, true, true, true, true] _ _ _) = R
      cases R <;> rfl
theorem div_loop (bx by_ : Bool) (x y : Nat) (hx : Fits x) (hy : Fits (y * 2)) (hy0 : 0 < y) : ∀ (i : Nat) (br : Bool) (fl : List (Nat × Nat)) (r : Nat) (qs : List Int), (fl = [(5, 1)] ∨ fl = []) → i ≤ 32 * (limbs x).length → r = x / 2 ^ i % y → valL qs = 2 ^ i * (x / 2 ^ i / y) → U32 qs → qs.length = (limbs x).length →
    rk Tryd.prog pol (dT bx by_ x y (limbs x).length br r ((i : Int) - 1) fl qs) = some (.t [.d (.l (nb (x / y)) (ws (x / y))), .d (.l (nb (x % y)) (ws (x % y))), .d (.b true)], []) := by
  have lx := hx.len
  intro i
  induction i with
  | zero =>
    intro br fl r qs hfl hi hr hv hu hl
    rw [Nat.pow_zero, Nat.div_one] at hr
    rw [Nat.pow_zero, Nat.div_one, Nat.one_mul] at hv
    have hcm := cutm_run qs hu (by omega)
    rw [hl, hv, nl_ws] at hcm
    have hc := cut_ws br r (by rw [hr]; exact hx.le (Nat.mod_le _ _))
    rw [hr] at hc
    have h1 : ¬ ((((0 : Nat) : Int) - 1) ≥ 0) := by omega
    unfold dT
    rw [hr]
    rcases hfl with rfl | rfl
    · rw [f74_at175]
      simp only [interp_brB, decide_eq_false h1, Bool.false_eq_true, if_false, interp_call', hcm, Option.bind_some, unCons_c, unCells_c, beq_self_eq_true, interp_ift', if_true, unNil_n, asD_d, asL_l, hc, List.isEmpty_nil, interp_ret]
    · rw [f74_at175_1]
      simp only [interp_brB, decide_eq_false h1, Bool.false_eq_true, if_false, interp_call', hcm, Option.bind_some, unCons_c, unCells_c, beq_self_eq_true, interp_ift', if_true, unNil_n, asD_d, asL_l, hc, List.isEmpty_nil, interp_ret]
  | succ i ih =>
    intro br fl r qs hfl hi hr hv hu hl
    have hry : r < y := by rw [hr]; exact Nat.mod_lt _ hy0
    have e : (((i + 1 : Nat) : Int) - 1) = (i : Int) := by omega
    have fr : Fits (r * 2) := hy.le (Nat.mul_le_mul_right _ (by omega))
    have hb := Nat.mod_two_eq_zero_or_one (x / 2 ^ i)
    have fr1 : Fits (r * 2 + x / 2 ^ i % 2) := hy.le (by omega)
    have hX : x / 2 ^ i = 2 * (x / 2 ^ (i + 1)) + x / 2 ^ i % 2 := by
      rw [Nat.pow_succ, ← Nat.div_div_eq_div_mul]
      have := Nat.div_add_mod (x / 2 ^ i) 2
      omega
    have hdm := Nat.div_add_mod (x / 2 ^ (i + 1)) y
    rw [← hr] at hdm
    have hXY : x / 2 ^ i = y * (2 * (x / 2 ^ (i + 1) / y)) + (r * 2 + x / 2 ^ i % 2) := by
      have : y * (2 * (x / 2 ^ (i + 1) / y)) = 2 * (y * (x / 2 ^ (i + 1) / y)) := by rw [Nat.mul_left_comm]
      omega
    rw [e, div_head bx by_ br x y _ r i fl hfl qs hx (by omega) (hr ▸ fr.le (by omega)) fr]
    have hm := div_mid bx by_ (nb (r * 2 + x / 2 ^ i % 2)) x y (limbs x).length (r * 2 + x / 2 ^ i % 2) i qs fr1 (hy.le (by omega)) hl.symm (by omega) lx hu (x / 2 ^ (i + 1) / y) hv
    by_cases hlt : r * 2 + x / 2 ^ i % 2 < y
    · rw [hm.1 hlt]
      have hq : x / 2 ^ i / y = 2 * (x / 2 ^ (i + 1) / y) := by
        conv => lhs; rw [hXY]
        rw [Nat.mul_add_div hy0, Nat.div_eq_of_lt hlt, Nat.add_zero]
      have hrr : x / 2 ^ i % y = r * 2 + x / 2 ^ i % 2 := by
        conv => lhs; rw [hXY]
        rw [Nat.mul_add_mod, Nat.mod_eq_of_lt hlt]
      refine ih _ [] _ qs (Or.inr rfl) (by omega) hrr.symm ?_ hu hl
      rw [hv, hq, Nat.pow_succ, Nat.mul_assoc]
    · obtain ⟨qs', u1, u2, u3, u4⟩ := hm.2 (by omega)
      rw [u4]
      have hq : x / 2 ^ i / y = 2 * (x / 2 ^ (i + 1) / y) + 1 := by
        conv => lhs; rw [hXY]
        have hd1 : (r * 2 + x / 2 ^ i % 2) / y = 1 := Nat.div_eq_of_lt_le (by omega) (by omega)
        rw [Nat.mul_add_div hy0, hd1]
      have hrr : x / 2 ^ i % y = r * 2 + x / 2 ^ i % 2 - y := by
        conv => lhs; rw [hXY]
        rw [Nat.mul_add_mod, Nat.mod_eq_sub_mod (by omega), Nat.mod_eq_of_lt (by omega)]
      refine ih _ [] _ qs' (Or.inr rfl) (by omega) hrr.symm ?_ u1 u2
      rw [u3, hq]
theorem div_ws (b c : Bool) (x y : Nat) (hx : Fits x) (hy : Fits (y * 2)) (hy0 : 0 < y) : rk Tryd.prog pol (Task.call 99 [V.d (D.l b (ws x)), V.d (D.l c (ws y))] []) = some (.t [.d (.l (nb (x / y)) (ws (x / y))), .d (.l (nb (x % y)) (ws (x % y))), .d (.b true)], []) := by
  rw [f74]
  have lx := hx.len
  have fy : Fits y := hy.le (by omega)
  have c1 := cut_ws b x hx
  have c2 := cut_ws c y fy
  have cb := bits_ws (nb x) x hx
  have hyl : (limbs y).length ≠ 0 := fun e => by
    have := (limbs_nil_iff y).1 (List.length_eq_zero_iff.1 e); omega
  have h4 : ((((limbs y).length : Nat) : Int) == 0) = false := beq_eq_false_iff_ne.2 (by omega)
  have hbl : blen x ≤ 32 * (limbs x).length := (blen_le_iff _ _).2 (by rw [← W_pow']; exact limbs_lt_len x)
  have hw : IntKind.i64.wrap (((blen x : Nat) : Int) - 1) = ((blen x : Nat) : Int) - 1 := by rw [wrap_i64] <;> omega
  have hle : (((limbs x).length : Nat) : Int) ≤ 4294967296 := by omega
  have hx0 : x / 2 ^ blen x = 0 := Nat.div_eq_of_lt (lt_blen x)
  have h := div_loop (nb x) (nb y) x y hx hy hy0 (blen x) true [(5, 1)] 0 (List.replicate (limbs x).length 0) (Or.inl rfl) hbl (by rw [hx0, Nat.zero_mod]) (by rw [hx0, Nat.zero_div, Nat.mul_zero, val_replicate]) (fun z hz => by rw [List.mem_replicate] at hz; omega) (by simp)
  unfold dT at h
  rw [← cells_replicate, ws_zero] at h
  simp only [interp_call', c1, c2, Option.bind_some, List.isEmpty_nil, interp_ift', if_true, asD_d, asL_l, ws_len, interp_brB, h4, Bool.false_eq_true, if_false, decide_true, decide_eq_true hle, cb, interp_asI, hw, Int.toNat_natCast, interp_ret, h]
end Go.Dn.Dec
