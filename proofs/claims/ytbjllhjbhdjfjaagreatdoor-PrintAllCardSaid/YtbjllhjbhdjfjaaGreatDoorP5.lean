/- Numbers as rows of words, the least ahead. -/
import Derived.Test.YtbjllhjbhdjfjaaGreatDoorP4
import Derived.Test.YtbjllhjbhdjfjaaGreatDoorProg
import Derived.KernelRfl
import Derived.Shelf.Strings.Trim
import Derived.Shelf.Small.Bits
import Derived.Shelf.Small.Strs
import Derived.Shelf.Strconv.Itoa0
import Derived.Shelf.Strconv.Itoa1
import Derived.Shelf.LaysM
import Derived.Shelf.Strconv.Itoa2
import Derived.Shelf.Strconv.Itoa3
import Derived.Shelf.Strings.Search1
import Derived.Shelf.Strings.Search2
import Derived.Shelf.Strings.Search3
import Derived.Shelf.Strings.Prefix
import Derived.Shelf.Unicode.DecodeAny
import Derived.WalkKit
import Derived.WalkSpells
import Derived.WalkLawsBesides
import Derived.Lib.AppendIntMem
import Derived.Shelf.Strings.SlTrimAscii
import Derived.Test.YtbjllhjbhdjfjaaGreatDoorRows
import Derived.Lib.LaidTab
import Derived.Stop.LaidErr
import Derived.Shelf.Vars
import Derived.Handed
import Derived.ProofKit
import Derived.OpenShut
import Derived.LaidMore
import Derived.Lay
namespace Go.Dn.Dec
def W : Nat := 4294967296
theorem W_pos : 0 < W := by decide
def valL : List Int → Nat
 | [] => 0
 | z :: zs => z.toNat + W * valL zs
def limbs (n : Nat) : List Int :=
 if n = 0 then [] else (n % W : Nat) :: limbs (n / W)
termination_by n
decreasing_by exact Nat.div_lt_self (by omega) (by decide)
theorem limbs_zero : limbs 0 = [] := by rw [limbs]; simp
theorem limbs_pos {n : Nat} (h : n ≠ 0) : limbs n = ((n % W : Nat) : Int) :: limbs (n / W) := by rw [limbs, if_neg h]
def U32 (a : List Int) : Prop := ∀ z ∈ a, 0 ≤ z ∧ z < 4294967296
theorem U32.cons {z : Int} {a : List Int} : U32 (z :: a) ↔ (0 ≤ z ∧ z < 4294967296) ∧ U32 a := by simp [U32]
theorem U32.nil : U32 [] := by simp [U32]
theorem U32.take {a : List Int} (h : U32 a) (n : Nat) : U32 (a.take n) := fun z hz => h z (List.mem_of_mem_take hz)
theorem U32.append {a b : List Int} (h : U32 a) (k : U32 b) : U32 (a ++ b) := fun z hz => (List.mem_append.1 hz).elim (h z) (k z)
theorem limbs_u32 (n : Nat) : U32 (limbs n) := by
 induction n using Nat.strongRecOn with
 | ind n ih =>
  by_cases h : n = 0
  ·subst h; rw [limbs_zero]; exact U32.nil
  ·rw [limbs_pos h]
   refine U32.cons.2 ⟨?_, ih _ (Nat.div_lt_self (by omega) (by decide))⟩
   have := Nat.mod_lt n W_pos
   unfold W at *; omega
theorem val_limbs (n : Nat) : valL (limbs n) = n := by
 induction n using Nat.strongRecOn with
 | ind n ih =>
  by_cases h : n = 0
  ·subst h; rw [limbs_zero]; rfl
  ·rw [limbs_pos h, valL, ih _ (Nat.div_lt_self (by omega) (by decide))]
   have := Nat.mod_add_div n W
   simp only [Int.toNat_natCast]; omega
theorem val_append (a b : List Int) : valL (a ++ b) = valL a + W ^ a.length * valL b := by
 induction a with
 | nil => simp [valL]
 | cons z a ih =>
  rw [List.cons_append, valL, valL, ih, List.length_cons, Nat.pow_succ, Nat.mul_add, Nat.mul_assoc, Nat.mul_left_comm W]
  rw [Nat.add_assoc]
theorem val_lt {a : List Int} (h : U32 a) : valL a < W ^ a.length := by
 induction a with
 | nil => simp [valL]
 | cons z a ih =>
  obtain ⟨hz, ha⟩ := U32.cons.1 h
  have := ih ha
  rw [valL, List.length_cons, Nat.pow_succ]
  have h1 : z.toNat < W := by unfold W; omega
  have : W * valL a + W ≤ W ^ a.length * W := by
   rw [Nat.mul_comm W, ← Nat.succ_mul]; exact Nat.mul_le_mul_right _ this
  omega
theorem limbs_val {a : List Int} (h : U32 a) (hl : ∀ z, a.getLast? = some z → z ≠ 0) : limbs (valL a) = a := by
 induction a with
 | nil => exact limbs_zero
 | cons z a ih =>
  obtain ⟨hz, ha⟩ := U32.cons.1 h
  have hzW : z.toNat < W := by unfold W; omega
  have ih' : limbs (valL a) = a := ih ha fun y hy => hl y (by rw [List.getLast?_cons]; simp [hy])
  have hne : valL (z :: a) ≠ 0 := by
   intro h0
   rw [valL] at h0
   have hz0 : z = 0 := by omega
   have ha0 : valL a = 0 := by
    rcases Nat.eq_zero_or_pos (valL a) with h | h
    ·exact h
    ·have := Nat.mul_pos W_pos h; omega
   rw [ha0, limbs_zero] at ih'
   subst ih'
   exact hl z (by simp) hz0
  rw [limbs_pos hne, valL, Nat.add_mul_mod_self_left, Nat.mod_eq_of_lt hzW, Nat.add_mul_div_left _ _ W_pos, Nat.div_eq_of_lt hzW, Nat.zero_add, ih']
  congr 1
  omega
def nl (n : Nat) : D := .l (decide (n = 0)) (ints .u32 (limbs n))
theorem limbs_nil_iff (n : Nat) : limbs n = [] ↔ n = 0 := by
 constructor
 ·intro h; rw [← val_limbs n, h]; rfl
 ·intro h; subst h; exact limbs_zero
theorem val_take_zero (a : List Int) (n : Nat) (h : a[n]? = some 0) : valL (a.take (n + 1)) = valL (a.take n) := by
 rw [List.take_add_one, h, val_append]
 simp [valL]
end Go.Dn.Dec
namespace Go.Dn.Dec
def cutT : List (Nat × List (Nat × List Nat)) :=
 [(19, [(23, [0, 5]), (263, [0, 5])]),
 (43, [(1011, [0, 3, 38]), (4083, [0, 3, 77])]),
 (44, [(61, [0, 2, 28]), (253, [0, 2, 45])]),
 (50, [(31, [0, 3]), (639, [3, 4, 5, 6]), (2047, [3, 6, 7]), (8191, [3, 6, 7, 8])]),
 (90, [(487, [0, 2, 3, 34]), (31, [0, 2, 3])]),
 (92, [(13, [0, 2, 42]), (61, [0, 2, 77]), (27, [0, 2, 103]), (30207, [0, 2, 7, 8, 9]), (62975, [0, 7, 8]), (32255, [0, 7, 10]), (2047, [0, 7])]),
 (93, [(55, [0, 2, 4, 60])]),
 (112, [(15, [4, 5])]),
 (136, [(2, [0, 1]), (24, [0, 1, 26])]),
 (140, [(127, [0, 1, 6]), (255, [0, 1, 6])]),
 (141, [(7, [0, 12])]),
 (142, [(27, [0, 3, 18]), (119, [0, 3, 41]), (3767, [0, 3, 5, 51])]),
 (143, [(351, [4, 5, 6, 18])]),
 (144, [(511, [4, 7, 8]), (4095, [9])]),
 (161, [(351, [1, 5, 6, 38, 39, 40])]),
 (162, [(19, [0, 3]), (195, [0, 3, 15])]),
 (164, [(87, [0, 1, 5])]),
 (165, [(43, [1, 5, 18, 19, 20]), (44235, [1, 5, 6, 7, 8, 18, 19, 20, 25, 26, 27])]),
 (166, [(13, [0, 9]), (39, [0, 3])]),
 (168, [(43, [0, 3, 7, 8])]),
 (169, [(55, [5, 31])]),
 (184, [(55, [0, 2, 22]), (111, [0, 2, 41]), (447, [0, 2, 53])]),
 (185, [(175, [1, 4, 5, 14]), (127, [5])]),
 (186, [(43, [0, 3, 6])]),
 (187, [(23, [0, 1, 6]), (455, [0, 1, 6, 7, 8])]),
 (196, [(87, [1, 5, 6, 13, 14, 15])]),
 (198, [(175, [0, 1, 4, 5, 7]), (14639, [0, 1, 4, 5, 7])]),
 (199, [(7, [0, 1]), (175, [1, 5, 6, 20, 21, 22]), (62255, [1, 5, 6, 20, 21, 22])]),
 (212, [(13, [0, 15])]),
 (213, [(19, [0, 4]), (195, [0, 4, 20])]),
 (218, [(175, [0, 1, 6, 19, 20]), (62255, [0, 1, 7, 8, 19, 20]), (521007, [0, 1, 6, 7, 8, 9, 19, 20])]),
 (150, [(27, [0, 4, 28]), (107, [0, 4]), (159, [0, 4, 5, 6, 7]), (1567, [0, 4, 5, 6, 7, 55]), (3359, [0, 4, 5, 6, 7]), (447, [0, 4, 5, 7, 79]), (45055, [4, 5, 7, 8, 11, 12]), (131071, [4, 11, 13])]),
 (48, [(15, [0, 3]), (447, [3, 4, 5, 33]), (511, [3, 4, 5]), (2047, [3, 6, 7]), (10239, [3, 6, 7, 8]), (32767, [3, 6, 7, 8]), (458751, [3, 8, 10, 104]), (1048575, [3, 8, 14]), (10485759, [3, 8, 15, 16]), (102760447, [3, 8, 15, 16, 130])]),
 (188, [(27, [0, 18]), (223, [0, 5, 33]), (2815, [0, 5, 6, 7]), (201471, [0, 5, 6, 7, 57])]),
 (109, [(87, [0, 1, 5, 6, 7]), (791, [0, 1, 5, 6, 7, 21])]),
 (105, [(43, [0, 1, 5, 6]), (10827, [0, 1, 5, 6, 7, 8])]),
 (106, [(87, [0, 3, 4])]),
 (189, [(23, [0, 1, 6]), (7111, [6, 9, 59])]),
 (102, [(43, [0, 1, 5, 6]), (1611, [0, 1, 5, 6, 31])]),
 (103, [(39, [3, 4]), (391, [3, 4, 18])]),
 (107, [(175, [0, 1, 7, 8, 9]), (1839, [0, 1, 7, 8, 9])]),
 (108, [(21, [0, 1, 5])]),
 (100, [(11, [0, 3])]),
 (152, [(19, [0, 3]), (195, [0, 3, 15])]),
 (215, [(7, [0, 1])]),
 (154, [(175, [0, 1, 6, 7, 8])]),
 (20, [(47, [5, 6])]),
 (21, [(43, [0, 1, 5])]),
 (45, [(2, [0]), (24, [0, 20]), (212, [0, 2, 30]), (980, [0, 52]), (2516, [0]), (25044, [0, 87]), (38868, [0, 3]), (399316, [0, 3, 125])]),
 (46, [(127, [0, 2, 3, 4, 5]), (3903, [0, 2, 3, 4, 5, 72]), (16191, [0, 2, 3, 4, 5, 83]), (57151, [0, 2, 3, 115]), (65343, [0, 2, 3, 4, 118]), (622399, [0, 2, 3, 4, 6]), (6389567, [0, 2, 3, 4, 6, 152]), (1802047, [0, 2, 3, 6, 170]), (393023, [0, 2, 3, 4, 7])]),
 (97, [(19, [0, 2, 3]), (195, [0, 2, 3, 55]), (351, [0, 2, 3, 4, 5]), (12895, [0, 2, 3, 4, 5, 103])]),
 (99, [(27, [0, 2, 3, 38]), (55, [0, 2, 3, 62]), (447, [0, 2, 3, 4, 97]), (895, [0, 2, 3, 4, 140]), (3455, [0, 2, 3, 4, 5]), (7551, [0, 2, 3, 4, 5, 186]), (4095, [0, 2, 6, 7])]),
 (145, [(121, [0, 9]), (505, [0, 20])]),
 (146, [(159, [0, 2, 3, 4, 5]), (1567, [0, 2, 3, 4, 5, 46]), (511, [0, 2, 3, 5, 6])]),
 (147, [(19, [0, 3]), (195, [0, 3, 29])]),
 (149, [(27, [0, 4, 16]), (351, [0, 4, 5, 6]), (447, [4, 5, 47])]),
 (151, [(61, [0, 4, 6, 47])])]
def cut (k : Nat) (p : List Bool) : Option (List Nat) := (cutT.lookup k).bind fun l => l.lookup (p.foldl (fun n b => 2 * n + b.toNat) 1)
def appT : List (Nat × Nat × Nat × Nat) := [(161, 8, 8, 0), (196, 1, 3, 0), (199, 3, 3, 0), (162, 4, 3, 0), (165, 1, 6, 1), (198, 4, 2, 1), (93, 5, 20, 3), (19, 8, 8, 3), (92, 25, 7, 3), (44, 9, 15, 3), (90, 7, 9, 3), (140, 10, 10, 3), (152, 4, 4, 0), (105, 1, 6, 1), (102, 1, 7, 1), (107, 3, 3, 1)]
def app (k r i : Nat) : Nat := ((appT.find? fun x => x.1 == k && x.2.1 == r && x.2.2.1 == i).map (·.2.2.2)).getD 2
def unInts (k : IntKind) : List D → Option (List Int)
 | [] => some []
 | .i j n :: xs => if j = k then (unInts k xs).map (n :: ·) else none
 | _ => none
def decF : Nat → Nat → List UInt8
 | 0, n => [UInt8.ofNat (48 + n)]
 | k + 1, n => if n < 10 then [UInt8.ofNat (48 + n)] else decF k (n / 10) ++ [UInt8.ofNat (48 + n % 10)]
def decN (n : Nat) : List UInt8 := decF n n
theorem decF_eq : ∀ (k j n : Nat), n ≤ k → n ≤ j → decF k n = decF j n
 | 0, 0, _, _, _ => rfl
 | 0, j + 1, n, h, _ => by
  have : n = 0 := by omega
  subst this; rfl
 | k + 1, 0, n, _, h => by
  have : n = 0 := by omega
  subst this; rfl
 | k + 1, j + 1, n, h1, h2 => by
  rw [decF, decF]
  split
  ·rfl
  ·rw [decF_eq k j (n / 10) (by omega) (by omega)]
theorem decN_eq (n : Nat) : decN n = if n < 10 then [UInt8.ofNat (48 + n)] else decN (n / 10) ++ [UInt8.ofNat (48 + n % 10)] := by
 unfold decN
 cases n with
 | zero => rfl
 | succ k =>
  rw [decF]
  split
  ·rfl
  ·rw [decF_eq k ((k + 1) / 10) ((k + 1) / 10) (by omega) (by omega)]
def decI (n : Int) : List UInt8 := if n < 0 then 45 :: decN n.natAbs else decN n.toNat
def trimRightB (c : UInt8) (x : List UInt8) : List UInt8 := (x.reverse.dropWhile (· == c)).reverse
def blen (n : Nat) : Nat := if n = 0 then 0 else n.log2 + 1
def trimRightExt (args : List V) (S : List Ob) : Option Out :=
 match args with
 | [.d (.s x), .d (.s [c])] => if c.toNat < 128 ∧ x.length ≤ 1000000 then some (.d (.s (trimRightB c x)), S) else none
 | _ => none
def trimLeftExt (args : List V) (S : List Ob) : Option Out :=
 match args with
 | [.d (.s x), .d (.s [c])] => if c.toNat < 128 then some (.d (.s (x.dropWhile (· == c))), S) else none
 | [.d (.s x), .d (.s [43, 45])] => if x.length ≤ 100000 then some (.d (.s (x.dropWhile fun c => c == 43 || c == 45)), S) else none
 | _ => none
def itoaExt (args : List V) (S : List Ob) : Option Out :=
 match args with
 | [.d (.i .i64 n)] => if -1000000 < n ∧ n < 1000000 then some (.d (.s (decI n)), S) else none
 | _ => none
def fmtUintExt (args : List V) (S : List Ob) : Option Out :=
 match args with
 | [.d (.i .u64 n), .d (.i .i64 b)] => if b = 10 ∧ 0 ≤ n ∧ n < 18446744073709551616 then some (.d (.s (decN n.toNat)), S) else none
 | _ => none
def len32Ext (args : List V) (S : List Ob) : Option Out :=
 match args with
 | [.d (.i .u32 n)] => if 0 ≤ n ∧ n < 4294967296 then some (.d (.i .i64 (blen n.toNat : Nat)), S) else none
 | _ => none
def subR (x y : Nat) : V := if x < y then .t [.d (.l true []), .d (.b false)] else .t [.d (nl (x - y)), .d (.b true)]
def subExt (args : List V) (S : List Ob) : Option Out :=
 match args, S with
 | [.d (.l _ xs), .d (.l _ ys)], [] => match unInts .u32 xs, unInts .u32 ys with
  | some a, some b => if (a.all fun z => decide (0 ≤ z) && decide (z < 4294967296)) = true ∧ (b.all fun z => decide (0 ≤ z) && decide (z < 4294967296)) = true ∧ a.length ≤ 100000 ∧ b.length ≤ 100000 then some (subR (valL a) (valL b), []) else none
  | _, _ => none
 | _, _ => none
def findSub (t : List UInt8) : List UInt8 → Option Nat
 | [] => if t.isPrefixOf [] = true then some 0 else none
 | c :: r => if t.isPrefixOf (c :: r) = true then some 0 else (findSub t r).map (· + 1)
def idxV (o : Option Nat) : Int := match o with | some n => (n : Int) | none => -1
def containsExt (args : List V) (S : List Ob) : Option Out :=
 match args with
 | [.d (.s x), .d (.s t)] => if x.length ≤ 100000 ∧ t.length ≤ 100000 then some (.d (.b (findSub t x).isSome), S) else none
 | _ => none
def indexExt (args : List V) (S : List Ob) : Option Out :=
 match args with
 | [.d (.s x), .d (.s t)] => if x.length ≤ 100000 ∧ t.length ≤ 100000 then some (.d (.i .i64 (idxV (findSub t x))), S) else none
 | _ => none
def indexByteExt (args : List V) (S : List Ob) : Option Out :=
 match args with
 | [.d (.s x), .d (.i .u8 c)] => if x.length ≤ 100000 ∧ 0 ≤ c ∧ c < 256 then some (.d (.i .i64 (idxV (x.findIdx? fun d => d == UInt8.ofNat c.toNat))), S) else none
 | _ => none
def suffixExt (args : List V) (S : List Ob) : Option Out :=
 match args with
 | [.d (.s x), .d (.s t)] => if x.length ≤ 100000 ∧ t.length ≤ 100000 then some (.d (.b (t.isSuffixOf x)), S) else none
 | _ => none
def hexVal (c : UInt8) : Nat := if c.toNat ≤ 57 then c.toNat - 48 else if 97 ≤ c.toNat then c.toNat - 87 else c.toNat - 55
def hexV (l : List UInt8) : Nat := l.foldl (fun a c => a * 16 + hexVal c) 0
def isHex (c : UInt8) : Bool := (decide (48 ≤ c.toNat) && decide (c.toNat ≤ 57)) || (decide (97 ≤ c.toNat) && decide (c.toNat ≤ 102)) || (decide (65 ≤ c.toNat) && decide (c.toNat ≤ 70))
def parseHexExt (args : List V) (S : List Ob) : Option Out :=
 match args with
 | [.d (.s x), .d (.i .i64 b), .d (.i .i64 z)] => if b = 16 ∧ z = 64 ∧ x ≠ [] ∧ x.length ≤ 16 ∧ x.all isHex = true then some (.t [.d (.i .u64 (hexV x : Nat)), .nifc], S) else none
 | _ => none
def ext (k : Nat) : Option (List V → List Ob → Option Out) :=
 match k with
 | 117 => some trimRightExt
 | 183 => some trimLeftExt
 | 118 => some itoaExt
 | 167 => some fmtUintExt
 | 163 => some len32Ext
 | 218 => some subExt
 | 57 => some containsExt
 | 123 => some indexExt
 | 85 => some indexByteExt
 | 138 => some suffixExt
 | 182 => some parseHexExt
 | _ => none
def flg (k r i : Nat) : Fl := if k = 19 then [(4, 5)] else []
def pol : Pol := { cut := cut, app := app, flg := flg, ext := ext }
end Go.Dn.Dec
namespace Go.Dn.Dec
def unCellsU : List V → Option (List Int)
 | [] => some []
 | .d (.i .u32 n) :: xs => (unCellsU xs).map (n :: ·)
 | _ => none
def okU (a : List Int) : Bool := (a.all fun z => decide (0 ≤ z) && decide (z < 4294967296)) && decide (a.length ≤ 100000)
def cellsU (a : List Int) : List V := a.map fun z => V.d (.i .u32 z)
def cutExtS (args : List V) (S : List Ob) : Option Out :=
 match args, S with
 | [.d (.l _ xs)], [] => match unInts .u32 xs with
  | some a => if okU a = true then some (.m 0 0 (limbs (valL a)).length, [.cells (cellsU (limbs (valL a))) []]) else none
  | none => none
 | [.m 0 0 n], [.cells cs []] => match unCellsU cs with
  | some a => if n = a.length ∧ okU a = true then some (.d (nl (valL a)), [.cells cs []]) else none
  | none => none
 | _, _ => none
def cmpExtS (args : List V) (S : List Ob) : Option Out :=
 match args, S with
 | [.m 0 0 n, .m 1 0 m], [.cells ds [], .cells cs []] => match unCellsU cs, unCellsU ds with
  | some a, some b => if n = a.length ∧ m = b.length ∧ okU a = true ∧ okU b = true then some (.d (.i .i64 (if valL a < valL b then -1 else if valL b < valL a then 1 else 0)), [.cells ds [], .cells cs []]) else none
  | _, _ => none
 | _, _ => none
def polA : Pol := { cut := cut, app := app, flg := fun _ _ _ => [], ext := fun _ => none }
def polC : Pol := { cut := cut, app := fun k _ _ => if k = 162 then 1 else 2, flg := fun _ _ _ => [], ext := fun _ => none }
def extS (k : Nat) : Option (List V → List Ob → Option Out) :=
 match k with
 | 162 => some cutExtS
 | 164 => some cmpExtS
 | _ => none
def polS : Pol := { cut := cut, app := app, flg := fun _ _ _ => [], ext := extS, fresh := fun k => k == 162 }
end Go.Dn.Dec
namespace Go.Dn.Dec
open Go.Proofs
theorem a51 (n : Nat) (cs : List V) : rk Tryz.prog polA (.call 162 [.m 0 0 n] [.cells cs []]) = interp (rk Tryz.prog polA) (.call (.at_ 162 1 [false, false, true, true] (sv 22 [(0, .m 0 0 n), (3, vi (n : Int))]) [] [.cells cs []]) .ret) :=
 rk_of (by kernel_rfl)
theorem a51p (n : Nat) (cs ds : List V) : rk Tryz.prog polA (.call 162 [.m 1 0 n] [.cells ds [], .cells cs []]) = interp (rk Tryz.prog polA) (.call (.at_ 162 2 [false, false, true, true] (sv 22 [(0, .m 1 0 n), (3, vi (n : Int))]) [] [.cells ds [], .cells cs []]) .ret) :=
 rk_of (by kernel_rfl)
theorem a62 (n m : Nat) (cs ds : List V) : rk Tryz.prog polA (.call 164 [.m 0 0 n, .m 1 0 m] [.cells ds [], .cells cs []]) = interp (rk Tryz.prog polA) (c1 (.call 162 [.m 0 0 n] [.cells cs []]) cs.length [] fun a b => aL a fun c e => c2 (.call 162 [.m 1 0 m] [.cells ds [], .cells b []]) ds.length [] b.length [] fun f g h => aL f fun j k => brB (decide ((e.length : Int) < (k.length : Int))) (.ret (vi (-1), [.cells g [], .cells h []])) (brB (decide ((e.length : Int) > (k.length : Int))) (.ret (vi 1, [.cells g [], .cells h []])) (.call (.at_ 164 2 [false, true, false, true, true, true] (sv 49 [(0, vl c e), (1, vl j k), (5, vi (IntKind.i64.wrap ((e.length : Int) - 1)))]) [] [.cells g [], .cells h []]) .ret))) :=
 rk_of (by kernel_rfl)
theorem a51_at19 (m_0 : Nat) (n_1 : Int) (l_2 : List V) : rk Tryz.prog polA (.at_ 162 1 [false, false, true, true] (sv 22 [(0, .m 0 0 m_0), (3, vi n_1)]) [] [.cells l_2 []]) = interp (rk Tryz.prog polA) (brB (decide (n_1 > 0)) (ift (decide (0 ≤ IntKind.i64.wrap (n_1 - 1) ∧ IntKind.i64.wrap (n_1 - 1) < (m_0 : Int))) (ob l_2[0 + (IntKind.i64.wrap (n_1 - 1)).toNat]? fun a => asD a fun c => asI .u32 c fun e => .call (.at_ 162 1 [true, false, false, false, false, true, true] (sv 22 [(0, .m 0 0 m_0), (3, vi n_1), (15, vb (e == 0))]) [] [.cells l_2 []]) .ret)) (.call (.at_ 162 1 [true, false, false, false, false, true, true] (sv 22 [(0, .m 0 0 m_0), (3, vi n_1), (15, vb false)]) [] [.cells l_2 []]) .ret)) :=
 rk_of (by kernel_rfl)
theorem a51_at19_2 (m_0 : Nat) (n_1 : Int) (l_2 l_3 : List V) : rk Tryz.prog polA (.at_ 162 2 [false, false, true, true] (sv 22 [(0, .m 1 0 m_0), (3, vi n_1)]) [] [.cells l_2 [], .cells l_3 []]) = interp (rk Tryz.prog polA) (brB (decide (n_1 > 0)) (ift (decide (0 ≤ IntKind.i64.wrap (n_1 - 1) ∧ IntKind.i64.wrap (n_1 - 1) < (m_0 : Int))) (ob l_2[0 + (IntKind.i64.wrap (n_1 - 1)).toNat]? fun a => asD a fun c => asI .u32 c fun e => .call (.at_ 162 2 [true, false, false, false, false, true, true] (sv 22 [(0, .m 1 0 m_0), (3, vi n_1), (15, vb (e == 0))]) [] [.cells l_2 [], .cells l_3 []]) .ret)) (.call (.at_ 162 2 [true, false, false, false, false, true, true] (sv 22 [(0, .m 1 0 m_0), (3, vi n_1), (15, vb false)]) [] [.cells l_2 [], .cells l_3 []]) .ret)) :=
 rk_of (by kernel_rfl)
theorem a62_at87 (b_0 : Bool) (l_1 : List D) (b_2 : Bool) (l_3 : List D) (n_4 : Int) (l_5 l_6 : List V) : rk Tryz.prog polA (.at_ 164 2 [false, true, false, true, true, true] (sv 49 [(0, vl b_0 l_1), (1, vl b_2 l_3), (5, vi n_4)]) [] [.cells l_5 [], .cells l_6 []]) = interp (rk Tryz.prog polA) (brB (decide (n_4 ≥ 0)) (eC l_1 n_4 1 0 fun a => asI .u32 a fun b => eC l_3 n_4 1 0 fun c => asI .u32 c fun e => brB (decide (b < e)) (.ret (vi (-1), [.cells l_5 [], .cells l_6 []])) (eC l_1 n_4 1 0 fun f => asI .u32 f fun g => eC l_3 n_4 1 0 fun h => asI .u32 h fun j => brB (decide (g > j)) (.ret (vi 1, [.cells l_5 [], .cells l_6 []])) (.call (.at_ 164 2 [false, true, false, true, true, true] (sv 49 [(0, vl b_0 l_1), (1, vl b_2 l_3), (5, vi (IntKind.i64.wrap (n_4 - 1)))]) [] [.cells l_5 [], .cells l_6 []]) .ret))) (.ret (vi 0, [.cells l_5 [], .cells l_6 []]))) :=
 rk_of (by kernel_rfl)
theorem a51_at195 (m_0 : Nat) (n_1 : Int) (b_2 : Bool) (l_3 : List V) : rk Tryz.prog polA (.at_ 162 1 [true, false, false, false, false, true, true] (sv 22 [(0, .m 0 0 m_0), (3, vi n_1), (15, vb b_2)]) [] [.cells l_3 []]) = interp (rk Tryz.prog polA) (brB b_2 (.call (.at_ 162 1 [false, false, true, true] (sv 22 [(0, .m 0 0 m_0), (3, vi (IntKind.i64.wrap (n_1 - 1)))]) [] [.cells l_3 []]) .ret) (ift (decide (0 ≤ n_1 ∧ n_1 ≤ (m_0 : Int))) (ob (o_tail [.cells l_3 []] 1 (.m 0 0 (n_1.toNat - 0))) fun a => ift (headOk 1 a) (ift (decide (0 + a.length ≤ 4294967296)) (.ret (vl a.isEmpty ([] ++ a), [.cells l_3 []])))))) :=
 rk_of (by kernel_rfl)
theorem a51_at195_1 (m_0 : Nat) (n_1 : Int) (b_2 : Bool) (l_3 l_4 : List V) : rk Tryz.prog polA (.at_ 162 2 [true, false, false, false, false, true, true] (sv 22 [(0, .m 1 0 m_0), (3, vi n_1), (15, vb b_2)]) [] [.cells l_3 [], .cells l_4 []]) = interp (rk Tryz.prog polA) (brB b_2 (.call (.at_ 162 2 [false, false, true, true] (sv 22 [(0, .m 1 0 m_0), (3, vi (IntKind.i64.wrap (n_1 - 1)))]) [] [.cells l_3 [], .cells l_4 []]) .ret) (ift (decide (0 ≤ n_1 ∧ n_1 ≤ (m_0 : Int))) (ob (o_tail [.cells l_3 [], .cells l_4 []] 1 (.m 1 0 (n_1.toNat - 0))) fun a => ift (headOk 1 a) (ift (decide (0 + a.length ≤ 4294967296)) (.ret (vl a.isEmpty ([] ++ a), [.cells l_3 [], .cells l_4 []])))))) :=
 rk_of (by kernel_rfl)
theorem c51 (b : Bool) (xs : List D) : rk Tryz.prog polC (.call 162 [vl b xs] []) = interp (rk Tryz.prog polC) (.call (.at_ 162 0 [false, false, true, true] (sv 22 [(0, vl b xs), (3, vi (xs.length : Int))]) [] []) .ret) :=
 rk_of (by kernel_rfl)
theorem c51_at19 (b_0 : Bool) (l_1 : List D) (n_2 : Int) : rk Tryz.prog polC (.at_ 162 0 [false, false, true, true] (sv 22 [(0, vl b_0 l_1), (3, vi n_2)]) [] []) = interp (rk Tryz.prog polC) (brB (decide (n_2 > 0)) (eC l_1 (IntKind.i64.wrap (n_2 - 1)) 1 0 fun a => asI .u32 a fun c => .call (.at_ 162 0 [true, false, false, false, false, true, true] (sv 22 [(0, vl b_0 l_1), (3, vi n_2), (15, vb (c == 0))]) [] []) .ret) (.call (.at_ 162 0 [true, false, false, false, false, true, true] (sv 22 [(0, vl b_0 l_1), (3, vi n_2), (15, vb false)]) [] []) .ret)) :=
 rk_of (by kernel_rfl)
theorem s81 (b : Bool) (xs : List D) (c : Bool) (ys : List D) : rk Tryz.prog polS (.call 218 [vl b xs, vl c ys] []) = interp (rk Tryz.prog polS) (.call (.call 162 [vl b xs] []) fun a => asM a fun e f => .call (.call 162 [vl c ys] []) fun g => asM g fun h j => c2 (.call 164 [.m 0 0 f, .m 1 0 j] [.cells h [], .cells e []]) h.length [] e.length [] fun k n o => aI k fun p => brB (decide (p < 0)) (.ret (.t [vl true [], vb false], [])) (.call (.at_ 218 0 [false, true, false, true, true, true, true] (sv 55 [(0, .m 0 0 f), (1, .m 1 0 j), (6, vu 0), (19, vi (f : Int)), (20, vi 0)]) [] [.cells n [], .cells o []]) .ret)) :=
 rk_of (by kernel_rfl)
theorem s81_at175 (m_0 m_1 : Nat) (n_2 n_3 n_4 : Int) (l_5 l_6 : List V) : rk Tryz.prog polS (.at_ 218 0 [false, true, false, true, true, true, true] (sv 55 [(0, .m 0 0 m_0), (1, .m 1 0 m_1), (6, vu n_2), (19, vi n_3), (20, vi n_4)]) [] [.cells l_5 [], .cells l_6 []]) = interp (rk Tryz.prog polS) (brB (decide (n_4 < n_3)) (brB (decide (n_4 < (m_1 : Int))) (ift (decide (0 ≤ n_4 ∧ n_4 < (m_1 : Int))) (ob l_5[0 + n_4.toNat]? fun a => asD a fun c => asI .u32 c fun e => .call (.at_ 218 0 [true, true, true, false, false, true, true, false, false, true, false, true, true, true, true] (sv 55 [(0, .m 0 0 m_0), (1, .m 1 0 m_1), (7, vi n_4), (8, vu (IntKind.u64.wrap (n_2 + IntKind.u64.wrap e))), (19, vi n_3), (20, vi n_4)]) [] [.cells l_5 [], .cells l_6 []]) .ret)) (.call (.at_ 218 0 [true, true, true, false, false, true, true, false, false, true, false, true, true, true, true] (sv 55 [(0, .m 0 0 m_0), (1, .m 1 0 m_1), (7, vi n_4), (8, vu n_2), (19, vi n_3), (20, vi n_4)]) [] [.cells l_5 [], .cells l_6 []]) .ret)) (c1 (.call 162 [.m 0 0 m_0] [.cells l_6 []]) l_6.length [] fun f g => aL f fun h j => .ret (.t [vl h j, vb true], []))) :=
 rk_of (by kernel_rfl)
theorem s81_at62255 (m_0 m_1 : Nat) (n_2 n_3 n_4 n_5 : Int) (l_6 l_7 : List V) : rk Tryz.prog polS (.at_ 218 0 [true, true, true, false, false, true, true, false, false, true, false, true, true, true, true] (sv 55 [(0, .m 0 0 m_0), (1, .m 1 0 m_1), (7, vi n_2), (8, vu n_3), (19, vi n_4), (20, vi n_5)]) [] [.cells l_6 [], .cells l_7 []]) = interp (rk Tryz.prog polS) (ift (decide (0 ≤ n_2 ∧ n_2 < (m_0 : Int))) (ob l_7[0 + n_2.toNat]? fun a => asD a fun b => asI .u32 b fun c => brB (decide (IntKind.u64.wrap c < n_3)) (.call (.at_ 218 0 [true, true, true, true, true, true, false, false, true, true, false, false, true, false, true, true, true, true] (sv 55 [(0, .m 0 0 m_0), (1, .m 1 0 m_1), (6, vu 1), (7, vi n_2), (8, vu n_3), (9, vu (IntKind.u64.wrap (IntKind.u64.wrap c + 4294967296))), (19, vi n_4), (20, vi n_5)]) [] [.cells l_6 [], .cells l_7 []]) .ret) (.call (.at_ 218 0 [true, true, true, true, true, true, false, false, true, true, false, false, true, false, true, true, true, true] (sv 55 [(0, .m 0 0 m_0), (1, .m 1 0 m_1), (6, vu 0), (7, vi n_2), (8, vu n_3), (9, vu (IntKind.u64.wrap c)), (19, vi n_4), (20, vi n_5)]) [] [.cells l_6 [], .cells l_7 []]) .ret))) :=
 rk_of (by kernel_rfl)
theorem s81_at521007 (m_0 m_1 : Nat) (n_2 n_3 n_4 n_5 n_6 n_7 : Int) (l_8 l_9 : List V) : rk Tryz.prog polS (.at_ 218 0 [true, true, true, true, true, true, false, false, true, true, false, false, true, false, true, true, true, true] (sv 55 [(0, .m 0 0 m_0), (1, .m 1 0 m_1), (6, vu n_2), (7, vi n_3), (8, vu n_4), (9, vu n_5), (19, vi n_6), (20, vi n_7)]) [] [.cells l_8 [], .cells l_9 []]) = interp (rk Tryz.prog polS) (ift (decide (0 ≤ n_3 ∧ n_3 < (m_0 : Int))) (ift (decide (0 + n_3.toNat < l_9.length) && true) (.call (.at_ 218 0 [false, true, false, true, true, true, true] (sv 55 [(0, .m 0 0 m_0), (1, .m 1 0 m_1), (6, vu n_2), (19, vi n_6), (20, vi (IntKind.i64.wrap (n_7 + 1)))]) [] [.cells l_8 [], .cells (l_9.set (0 + n_3.toNat) (.d (.i .u32 (IntKind.u32.wrap (IntKind.u64.wrap (n_5 - n_4)))))) []]) .ret))) :=
 rk_of (by kernel_rfl)
end Go.Dn.Dec
namespace Go.Dn.Dec
open Go.Proofs
theorem f51 (b : Bool) (xs : List D) : rk Tryz.prog pol (.call 162 [vl b xs] []) = interp (rk Tryz.prog pol) (.call (.at_ 162 0 [false, false, true, true] (sv 22 [(0, vl b xs), (3, vi (xs.length : Int))]) [] []) .ret) :=
 rk_of (by kernel_rfl)
theorem f51m (n : Nat) (cs : List V) : rk Tryz.prog pol (.call 162 [.m 0 0 n] [.cells cs []]) = interp (rk Tryz.prog pol) (.call (.at_ 162 1 [false, false, true, true] (sv 22 [(0, .m 0 0 n), (3, vi (n : Int))]) [] [.cells cs []]) .ret) :=
 rk_of (by kernel_rfl)
theorem f23 (n : Int) : rk Tryz.prog pol (.call 160 [vu n] []) = interp (rk Tryz.prog pol) (cV (.call 162 [vl true [.i .u32 (IntKind.u32.wrap n), .i .u32 (IntKind.u32.wrap (n.fdiv 4294967296))]] []) fun a => aL a fun b c => .ret (vl b c, [])) :=
 rk_of (by kernel_rfl)
theorem f25 (n : Int) : rk Tryz.prog pol (.call 166 [vi n] []) = interp (rk Tryz.prog pol) (brB (decide (n < 0)) (.call (.at_ 166 0 [true, false, true] (sv 18 [(0, vi n), (9, vb true)]) [] []) .ret) (.call (.at_ 166 0 [true, false, true] (sv 18 [(0, vi n), (9, vb (decide (n > 1000)))]) [] []) .ret)) :=
 rk_of (by kernel_rfl)
theorem f52 (b : Bool) (xs : List D) (n : Int) : rk Tryz.prog pol (.call 196 [vl b xs, .d (.i .u32 n)] []) = interp (rk Tryz.prog pol) (ift (decide (0 ≤ IntKind.i64.wrap ((xs.length : Int) + 1))) (ift (decide (IntKind.i64.wrap ((xs.length : Int) + 1) ≤ 4294967296)) (.call (.at_ 196 0 [false, true, false, true, true, true] (sv 40 [(1, .d (.i .u32 n)), (5, vl false []), (6, vu 0), (13, vl b xs), (14, vi (xs.length : Int)), (15, vi 0)]) [(5, 1)] []) .ret))) :=
 rk_of (by kernel_rfl)
theorem f24 (b : Bool) (xs : List D) (c : Bool) (ys : List D) : rk Tryz.prog pol (.call 165 [vl b xs, vl c ys] []) = interp (rk Tryz.prog pol) (ift (decide (0 ≤ IntKind.i64.wrap (IntKind.i64.wrap ((xs.length : Int) + (ys.length : Int)) + 1))) (ift (decide (IntKind.i64.wrap (IntKind.i64.wrap ((xs.length : Int) + (ys.length : Int)) + 1) = IntKind.i64.wrap (IntKind.i64.wrap ((xs.length : Int) + (ys.length : Int)) + 1))) (ift (decide (IntKind.i64.wrap (IntKind.i64.wrap ((xs.length : Int) + (ys.length : Int)) + 1) ≤ 4294967296)) (.call (.at_ 165 0 [false, true, false, true, true] (sv 68 [(1, vl c ys), (5, .m 0 0 (IntKind.i64.wrap (IntKind.i64.wrap ((xs.length : Int) + (ys.length : Int)) + 1)).toNat), (18, vl b xs), (19, vi (xs.length : Int)), (20, vi 0)]) [] [.cells (List.replicate (IntKind.i64.wrap (IntKind.i64.wrap ((xs.length : Int) + (ys.length : Int)) + 1)).toNat (.d (.i .u32 0))) []]) .ret)))) :=
 rk_of (by kernel_rfl)
theorem f50 (b : Bool) (xs : List D) (c : Bool) (ys : List D) : rk Tryz.prog pol (.call 199 [vl b xs, vl c ys] []) = interp (rk Tryz.prog pol) (brB (decide ((xs.length : Int) < (ys.length : Int))) (.call (.at_ 199 0 [true, true] (sv 56 [(0, vl c ys), (1, vl b xs)]) [] []) .ret) (.call (.at_ 199 0 [true, true] (sv 56 [(0, vl b xs), (1, vl c ys)]) [] []) .ret)) :=
 rk_of (by kernel_rfl)
theorem f53 (b : Bool) (xs : List D) (n : Int) : rk Tryz.prog pol (.call 161 [vl b xs, vi n] []) = interp (rk Tryz.prog pol) (cV (.call 162 [vl b xs] []) fun a => aL a fun c e => brB (decide (n < IntKind.i64.wrap (-32 * IntKind.i64.wrap ((e.length : Int) + 1)))) (.ret (vl true [], [])) (brB (decide (n < 0)) (cV (.call 195 [vl c e, vi (IntKind.i64.wrap (0 - n))] []) fun f => aL f fun g h => .ret (vl g h, [])) (brB ((e.length : Int) == 0) (.ret (vl true [], [])) (ift (decide (0 ≤ IntKind.i64.wrap (n.tdiv 32))) (ift (decide (IntKind.i64.wrap (n.tdiv 32) ≤ IntKind.i64.wrap (IntKind.i64.wrap (IntKind.i64.wrap (n.tdiv 32) + (e.length : Int)) + 1))) (ift (decide (IntKind.i64.wrap (IntKind.i64.wrap (IntKind.i64.wrap (n.tdiv 32) + (e.length : Int)) + 1) ≤ 4294967296)) (.call (.at_ 161 0 [false, true, false, true, true, true, true, true] (sv 65 [(1, vi n), (5, vl false (List.replicate (IntKind.i64.wrap (n.tdiv 32)).toNat (.i .u32 0))), (6, vu 0), (38, vl c e), (39, vi (e.length : Int)), (40, vi 0)]) [(5, 1)] []) .ret))))))) :=
 rk_of (by kernel_rfl)
theorem f74 (b : Bool) (xs : List D) (c : Bool) (ys : List D) : rk Tryz.prog pol (.call 198 [vl b xs, vl c ys] []) = interp (rk Tryz.prog pol) (cV (.call 162 [vl b xs] []) fun a => aL a fun e f => cV (.call 162 [vl c ys] []) fun g => aL g fun h j => brB ((j.length : Int) == 0) (.ret (.t [vl true [], vl true [], vb false], [])) (ift (decide ((f.length : Int) = (f.length : Int))) (ift (decide ((f.length : Int) ≤ 4294967296)) (cV (.call 113 [vl e f] []) fun k => aI k fun n => .call (.at_ 198 0 [false, true, false, true, true, true, true] (sv 64 [(0, vl e f), (1, vl h j), (4, .m 0 0 (f.length : Int).toNat), (5, vl true []), (7, vi (IntKind.i64.wrap (n - 1)))]) [(5, 1)] [.cells (List.replicate (f.length : Int).toNat (.d (.i .u32 0))) []]) .ret)))) :=
 rk_of (by kernel_rfl)
theorem f34 (b : Bool) (xs : List D) : rk Tryz.prog pol (.call 113 [vl b xs] []) = interp (rk Tryz.prog pol) (cV (.call 162 [vl b xs] []) fun a => aL a fun c e => brB ((e.length : Int) == 0) (.ret (vi 0, [])) (eC e (IntKind.i64.wrap ((e.length : Int) - 1)) 1 0 fun f => asI .u32 f fun g => cV (.call 163 [.d (.i .u32 g)] []) fun h => aI h fun j => .ret (vi (IntKind.i64.wrap (IntKind.i64.wrap (32 * IntKind.i64.wrap ((e.length : Int) - 1)) + j)), []))) :=
 rk_of (by kernel_rfl)
theorem f62 (b : Bool) (xs : List D) (c : Bool) (ys : List D) : rk Tryz.prog pol (.call 164 [vl b xs, vl c ys] []) = interp (rk Tryz.prog pol) (cV (.call 162 [vl b xs] []) fun a => aL a fun e f => cV (.call 162 [vl c ys] []) fun g => aL g fun h j => brB (decide ((f.length : Int) < (j.length : Int))) (.ret (vi (-1), [])) (brB (decide ((f.length : Int) > (j.length : Int))) (.ret (vi 1, [])) (.call (.at_ 164 0 [false, true, false, true, true, true] (sv 49 [(0, vl e f), (1, vl h j), (5, vi (IntKind.i64.wrap ((f.length : Int) - 1)))]) [] []) .ret))) :=
 rk_of (by kernel_rfl)
theorem f56 (b : Bool) (xs : List D) : rk Tryz.prog pol (.call 168 [vl b xs] []) = interp (rk Tryz.prog pol) (.call (.at_ 168 0 [false, true, false, true, true] (sv 23 [(0, vl b xs), (3, vu 0), (7, vi (if 2 < (xs.length : Int) then 2 else (xs.length : Int))), (8, vi 0)]) [] []) .ret) :=
 rk_of (by kernel_rfl)
theorem f51_at19 (b_0 : Bool) (l_1 : List D) (n_2 : Int) : rk Tryz.prog pol (.at_ 162 0 [false, false, true, true] (sv 22 [(0, vl b_0 l_1), (3, vi n_2)]) [] []) = interp (rk Tryz.prog pol) (brB (decide (n_2 > 0)) (eC l_1 (IntKind.i64.wrap (n_2 - 1)) 1 0 fun a => asI .u32 a fun c => .call (.at_ 162 0 [true, false, false, false, false, true, true] (sv 22 [(0, vl b_0 l_1), (3, vi n_2), (15, vb (c == 0))]) [] []) .ret) (.call (.at_ 162 0 [true, false, false, false, false, true, true] (sv 22 [(0, vl b_0 l_1), (3, vi n_2), (15, vb false)]) [] []) .ret)) :=
 rk_of (by kernel_rfl)
theorem f51_at19_1 (m_0 : Nat) (n_1 : Int) (l_2 : List V) : rk Tryz.prog pol (.at_ 162 1 [false, false, true, true] (sv 22 [(0, .m 0 0 m_0), (3, vi n_1)]) [] [.cells l_2 []]) = interp (rk Tryz.prog pol) (brB (decide (n_1 > 0)) (ift (decide (0 ≤ IntKind.i64.wrap (n_1 - 1) ∧ IntKind.i64.wrap (n_1 - 1) < (m_0 : Int))) (ob l_2[0 + (IntKind.i64.wrap (n_1 - 1)).toNat]? fun a => asD a fun c => asI .u32 c fun e => .call (.at_ 162 1 [true, false, false, false, false, true, true] (sv 22 [(0, .m 0 0 m_0), (3, vi n_1), (15, vb (e == 0))]) [] [.cells l_2 []]) .ret)) (.call (.at_ 162 1 [true, false, false, false, false, true, true] (sv 22 [(0, .m 0 0 m_0), (3, vi n_1), (15, vb false)]) [] [.cells l_2 []]) .ret)) :=
 rk_of (by kernel_rfl)
theorem f25_at13 (n_0 : Int) (b_1 : Bool) : rk Tryz.prog pol (.at_ 166 0 [true, false, true] (sv 18 [(0, vi n_0), (9, vb b_1)]) [] []) = interp (rk Tryz.prog pol) (brB b_1 (.ret (vl true [], [])) (cV (.call 160 [vu 1] []) fun a => aL a fun c e => .call (.at_ 166 0 [false, false, true, true, true] (sv 18 [(0, vi n_0), (3, vl c e)]) [] []) .ret)) :=
 rk_of (by kernel_rfl)
theorem f52_at87 (n_0 : Int) (b_1 : Bool) (l_2 : List D) (n_3 : Int) (b_4 : Bool) (l_5 : List D) (n_6 n_7 : Int) : rk Tryz.prog pol (.at_ 196 0 [false, true, false, true, true, true] (sv 40 [(1, .d (.i .u32 n_0)), (5, vl b_1 l_2), (6, vu n_3), (13, vl b_4 l_5), (14, vi n_6), (15, vi n_7)]) [(5, 1)] []) = interp (rk Tryz.prog pol) (brB (decide (n_7 < n_6)) (eC l_5 n_7 1 0 fun a => asI .u32 a fun b => ift (headOk 1 l_2) (ift (b_1 || true) (ift (decide (l_2.length + 1 ≤ 4294967296)) (.call (.at_ 196 0 [false, true, false, true, true, true] (sv 40 [(1, .d (.i .u32 n_0)), (5, vl (b_1 && false) (l_2 ++ [.i .u32 (IntKind.u32.wrap (IntKind.u64.wrap (n_3 + IntKind.u64.wrap (IntKind.u64.wrap b * IntKind.u64.wrap n_0))))])), (6, vu ((IntKind.u64.wrap (n_3 + IntKind.u64.wrap (IntKind.u64.wrap b * IntKind.u64.wrap n_0))).fdiv 4294967296)), (13, vl b_4 l_5), (14, vi n_6), (15, vi (IntKind.i64.wrap (n_7 + 1)))]) [(5, 1)] []) .ret)))) (ift (headOk 1 l_2) (ift (b_1 || true) (ift (decide (l_2.length + 1 ≤ 4294967296)) (cV (.call 162 [vl (b_1 && false) (l_2 ++ [.i .u32 (IntKind.u32.wrap n_3)])] []) fun c => aL c fun e f => .ret (vl e f, [])))))) :=
 rk_of (by kernel_rfl)
theorem f24_at43 (b_0 : Bool) (l_1 : List D) (m_2 : Nat) (b_3 : Bool) (l_4 : List D) (n_5 n_6 : Int) (l_7 : List V) : rk Tryz.prog pol (.at_ 165 0 [false, true, false, true, true] (sv 68 [(1, vl b_0 l_1), (5, .m 0 0 m_2), (18, vl b_3 l_4), (19, vi n_5), (20, vi n_6)]) [] [.cells l_7 []]) = interp (rk Tryz.prog pol) (brB (decide (n_6 < n_5)) (eC l_4 n_6 1 0 fun a => asI .u32 a fun b => .call (.at_ 165 0 [false, true, false, true, true, false, false, true, true, false, false, true, false, true, true] (sv 68 [(1, vl b_0 l_1), (5, .m 0 0 m_2), (6, vi n_6), (7, .d (.i .u32 b)), (8, vu 0), (18, vl b_3 l_4), (19, vi n_5), (20, vi n_6), (25, vl b_0 l_1), (26, vi (l_1.length : Int)), (27, vi 0)]) [] [.cells l_7 []]) .ret) (c1 (.call 162 [.m 0 0 m_2] [.cells l_7 []]) l_7.length [] fun c e => aL c fun f g => .ret (vl f g, []))) :=
 rk_of (by kernel_rfl)
theorem f50_at7 (b_0 : Bool) (l_1 : List D) (b_2 : Bool) (l_3 : List D) : rk Tryz.prog pol (.at_ 199 0 [true, true] (sv 56 [(0, vl b_0 l_1), (1, vl b_2 l_3)]) [] []) = interp (rk Tryz.prog pol) (ift (decide (0 ≤ IntKind.i64.wrap ((l_1.length : Int) + 1))) (ift (decide (IntKind.i64.wrap ((l_1.length : Int) + 1) ≤ 4294967296)) (.call (.at_ 199 0 [false, true, false, true, true, true, true] (sv 56 [(1, vl b_2 l_3), (5, vl false []), (6, vu 0), (20, vl b_0 l_1), (21, vi (l_1.length : Int)), (22, vi 0)]) [(5, 1)] []) .ret))) :=
 rk_of (by kernel_rfl)
theorem f53_at351 (n_0 : Int) (b_1 : Bool) (l_2 : List D) (n_3 : Int) (b_4 : Bool) (l_5 : List D) (n_6 n_7 : Int) : rk Tryz.prog pol (.at_ 161 0 [false, true, false, true, true, true, true, true] (sv 65 [(1, vi n_0), (5, vl b_1 l_2), (6, vu n_3), (38, vl b_4 l_5), (39, vi n_6), (40, vi n_7)]) [(5, 1)] []) = interp (rk Tryz.prog pol) (brB (decide (n_7 < n_6)) (eC l_5 n_7 1 0 fun a => asI .u32 a fun b => ift (decide (0 ≤ n_0.tmod 32)) (ift (headOk 1 l_2) (ift (b_1 || true) (ift (decide (l_2.length + 1 ≤ 4294967296)) (.call (.at_ 161 0 [false, true, false, true, true, true, true, true] (sv 65 [(1, vi n_0), (5, vl (b_1 && false) (l_2 ++ [.i .u32 (IntKind.u32.wrap (IntKind.u64.wrap ((BitVec.ofInt IntKind.u64.bits n_3 ||| BitVec.ofInt IntKind.u64.bits (IntKind.u64.wrap (IntKind.u64.wrap b * 2 ^ min (n_0.tmod 32).toNat 64))).toNat : Int)))])), (6, vu ((IntKind.u64.wrap ((BitVec.ofInt IntKind.u64.bits n_3 ||| BitVec.ofInt IntKind.u64.bits (IntKind.u64.wrap (IntKind.u64.wrap b * 2 ^ min (n_0.tmod 32).toNat 64))).toNat : Int)).fdiv 4294967296)), (38, vl b_4 l_5), (39, vi n_6), (40, vi (IntKind.i64.wrap (n_7 + 1)))]) [(5, 1)] []) .ret))))) (ift (headOk 1 l_2) (ift (b_1 || true) (ift (decide (l_2.length + 1 ≤ 4294967296)) (cV (.call 162 [vl (b_1 && false) (l_2 ++ [.i .u32 (IntKind.u32.wrap n_3)])] []) fun c => aL c fun e f => .ret (vl e f, [])))))) :=
 rk_of (by kernel_rfl)
theorem f74_at175 (b_0 : Bool) (l_1 : List D) (b_2 : Bool) (l_3 : List D) (m_4 : Nat) (b_5 : Bool) (l_6 : List D) (n_7 : Int) (l_8 : List V) : rk Tryz.prog pol (.at_ 198 0 [false, true, false, true, true, true, true] (sv 64 [(0, vl b_0 l_1), (1, vl b_2 l_3), (4, .m 0 0 m_4), (5, vl b_5 l_6), (7, vi n_7)]) [(5, 1)] [.cells l_8 []]) = interp (rk Tryz.prog pol) (brB (decide (n_7 ≥ 0)) (cV (.call 161 [vl b_5 l_6, vi 1] []) fun a => aL a fun c e => eC l_1 (IntKind.i64.wrap (n_7.tdiv 32)) 1 0 fun f => asI .u32 f fun g => ift (decide (0 ≤ n_7.tmod 32)) (brB (IntKind.u32.wrap ((BitVec.ofInt IntKind.u32.bits (g.fdiv (2 ^ min (n_7.tmod 32).toNat 32)) &&& BitVec.ofInt IntKind.u32.bits 1).toNat : Int) != 0) (cV (.call 160 [vu 1] []) fun h => aL h fun j k => cV (.call 199 [vl c e, vl j k] []) fun n => aL n fun o p => .call (.at_ 198 0 [true, true, false, false, true, false, false, true, false, true, true, true, true] (sv 64 [(0, vl b_0 l_1), (1, vl b_2 l_3), (4, .m 0 0 m_4), (5, vl o p), (7, vi n_7)]) [] [.cells l_8 []]) .ret) (.call (.at_ 198 0 [true, true, false, false, true, false, false, true, false, true, true, true, true] (sv 64 [(0, vl b_0 l_1), (1, vl b_2 l_3), (4, .m 0 0 m_4), (5, vl c e), (7, vi n_7)]) [] [.cells l_8 []]) .ret))) (c1 (.call 162 [.m 0 0 m_4] [.cells l_8 []]) l_8.length [] fun q r => aL q fun s zu => cV (.call 162 [vl b_5 l_6] []) fun v => aL v fun w x => .ret (.t [vl s zu, vl w x, vb true], []))) :=
 rk_of (by kernel_rfl)
theorem f62_at87 (b_0 : Bool) (l_1 : List D) (b_2 : Bool) (l_3 : List D) (n_4 : Int) : rk Tryz.prog pol (.at_ 164 0 [false, true, false, true, true, true] (sv 49 [(0, vl b_0 l_1), (1, vl b_2 l_3), (5, vi n_4)]) [] []) = interp (rk Tryz.prog pol) (brB (decide (n_4 ≥ 0)) (eC l_1 n_4 1 0 fun a => asI .u32 a fun b => eC l_3 n_4 1 0 fun c => asI .u32 c fun e => brB (decide (b < e)) (.ret (vi (-1), [])) (eC l_1 n_4 1 0 fun f => asI .u32 f fun g => eC l_3 n_4 1 0 fun h => asI .u32 h fun j => brB (decide (g > j)) (.ret (vi 1, [])) (.call (.at_ 164 0 [false, true, false, true, true, true] (sv 49 [(0, vl b_0 l_1), (1, vl b_2 l_3), (5, vi (IntKind.i64.wrap (n_4 - 1)))]) [] []) .ret))) (.ret (vi 0, []))) :=
 rk_of (by kernel_rfl)
theorem f56_at43 (b_0 : Bool) (l_1 : List D) (n_2 n_3 n_4 : Int) : rk Tryz.prog pol (.at_ 168 0 [false, true, false, true, true] (sv 23 [(0, vl b_0 l_1), (3, vu n_2), (7, vi n_3), (8, vi n_4)]) [] []) = interp (rk Tryz.prog pol) (brB (decide (n_4 < n_3)) (eC l_1 n_4 1 0 fun a => asI .u32 a fun b => ift (decide (0 ≤ IntKind.i64.wrap (32 * n_4))) (.call (.at_ 168 0 [false, true, false, true, true] (sv 23 [(0, vl b_0 l_1), (3, vu (IntKind.u64.wrap ((BitVec.ofInt IntKind.u64.bits n_2 ||| BitVec.ofInt IntKind.u64.bits (IntKind.u64.wrap (IntKind.u64.wrap b * 2 ^ min (IntKind.i64.wrap (32 * n_4)).toNat 64))).toNat : Int))), (7, vi n_3), (8, vi (IntKind.i64.wrap (n_4 + 1)))]) [] []) .ret)) (.ret (vu n_2, []))) :=
 rk_of (by kernel_rfl)
theorem f51_at195 (b_0 : Bool) (l_1 : List D) (n_2 : Int) (b_3 : Bool) : rk Tryz.prog pol (.at_ 162 0 [true, false, false, false, false, true, true] (sv 22 [(0, vl b_0 l_1), (3, vi n_2), (15, vb b_3)]) [] []) = interp (rk Tryz.prog pol) (brB b_3 (.call (.at_ 162 0 [false, false, true, true] (sv 22 [(0, vl b_0 l_1), (3, vi (IntKind.i64.wrap (n_2 - 1)))]) [] []) .ret) (ift (decide (0 ≤ n_2 ∧ n_2 ≤ (l_1.length : Int))) (ift (headOk 1 l_1) (ift (headOk 1 (List.take (n_2.toNat - 0) (List.drop 0 l_1))) (ift (decide (0 + (List.take (n_2.toNat - 0) (List.drop 0 l_1)).length ≤ 4294967296)) (.ret (vl (List.take (n_2.toNat - 0) (List.drop 0 l_1)).isEmpty ([] ++ List.take (n_2.toNat - 0) (List.drop 0 l_1)), []))))))) :=
 rk_of (by kernel_rfl)
theorem f51_at195_1 (m_0 : Nat) (n_1 : Int) (b_2 : Bool) (l_3 : List V) : rk Tryz.prog pol (.at_ 162 1 [true, false, false, false, false, true, true] (sv 22 [(0, .m 0 0 m_0), (3, vi n_1), (15, vb b_2)]) [] [.cells l_3 []]) = interp (rk Tryz.prog pol) (brB b_2 (.call (.at_ 162 1 [false, false, true, true] (sv 22 [(0, .m 0 0 m_0), (3, vi (IntKind.i64.wrap (n_1 - 1)))]) [] [.cells l_3 []]) .ret) (ift (decide (0 ≤ n_1 ∧ n_1 ≤ (m_0 : Int))) (ob (o_tail [.cells l_3 []] 1 (.m 0 0 (n_1.toNat - 0))) fun a => ift (headOk 1 a) (ift (decide (0 + a.length ≤ 4294967296)) (.ret (vl a.isEmpty ([] ++ a), [.cells l_3 []])))))) :=
 rk_of (by kernel_rfl)
theorem f25_at39 (n_0 : Int) (b_1 : Bool) (l_2 : List D) : rk Tryz.prog pol (.at_ 166 0 [false, false, true, true, true] (sv 18 [(0, vi n_0), (3, vl b_1 l_2)]) [] []) = interp (rk Tryz.prog pol) (brB (decide (n_0 > 0)) (cV (.call 196 [vl b_1 l_2, .d (.i .u32 10)] []) fun a => aL a fun b c => .call (.at_ 166 0 [false, false, true, true, true] (sv 18 [(0, vi (IntKind.i64.wrap (n_0 - 1))), (3, vl b c)]) [] []) .ret) (.ret (vl b_1 l_2, []))) :=
 rk_of (by kernel_rfl)
theorem f24_at44235 (b_0 : Bool) (l_1 : List D) (m_2 : Nat) (n_3 n_4 n_5 : Int) (b_6 : Bool) (l_7 : List D) (n_8 n_9 : Int) (b_10 : Bool) (l_11 : List D) (n_12 n_13 : Int) (l_14 : List V) : rk Tryz.prog pol (.at_ 165 0 [false, true, false, true, true, false, false, true, true, false, false, true, false, true, true] (sv 68 [(1, vl b_0 l_1), (5, .m 0 0 m_2), (6, vi n_3), (7, .d (.i .u32 n_4)), (8, vu n_5), (18, vl b_6 l_7), (19, vi n_8), (20, vi n_9), (25, vl b_10 l_11), (26, vi n_12), (27, vi n_13)]) [] [.cells l_14 []]) = interp (rk Tryz.prog pol) (brB (decide (n_13 < n_12)) (eC l_11 n_13 1 0 fun a => asI .u32 a fun b => ift (decide (0 ≤ IntKind.i64.wrap (n_3 + n_13) ∧ IntKind.i64.wrap (n_3 + n_13) < (m_2 : Int))) (ob l_14[0 + (IntKind.i64.wrap (n_3 + n_13)).toNat]? fun c => asD c fun e => asI .u32 e fun f => ift (decide (0 ≤ IntKind.i64.wrap (n_3 + n_13) ∧ IntKind.i64.wrap (n_3 + n_13) < (m_2 : Int))) (ift (decide (0 + (IntKind.i64.wrap (n_3 + n_13)).toNat < l_14.length) && true) (.call (.at_ 165 0 [false, true, false, true, true, false, false, true, true, false, false, true, false, true, true] (sv 68 [(1, vl b_0 l_1), (5, .m 0 0 m_2), (6, vi n_3), (7, .d (.i .u32 n_4)), (8, vu ((IntKind.u64.wrap (n_5 + IntKind.u64.wrap (IntKind.u64.wrap (IntKind.u64.wrap n_4 * IntKind.u64.wrap b) + IntKind.u64.wrap f))).fdiv 4294967296)), (18, vl b_6 l_7), (19, vi n_8), (20, vi n_9), (25, vl b_10 l_11), (26, vi n_12), (27, vi (IntKind.i64.wrap (n_13 + 1)))]) [] [.cells (l_14.set (0 + (IntKind.i64.wrap (n_3 + n_13)).toNat) (.d (.i .u32 (IntKind.u32.wrap (IntKind.u64.wrap (n_5 + IntKind.u64.wrap (IntKind.u64.wrap (IntKind.u64.wrap n_4 * IntKind.u64.wrap b) + IntKind.u64.wrap f))))))) []]) .ret)))) (ift (decide (0 ≤ IntKind.i64.wrap (n_3 + (l_1.length : Int)) ∧ IntKind.i64.wrap (n_3 + (l_1.length : Int)) < (m_2 : Int))) (ift (decide (0 + (IntKind.i64.wrap (n_3 + (l_1.length : Int))).toNat < l_14.length) && true) (.call (.at_ 165 0 [false, true, false, true, true] (sv 68 [(1, vl b_0 l_1), (5, .m 0 0 m_2), (18, vl b_6 l_7), (19, vi n_8), (20, vi (IntKind.i64.wrap (n_9 + 1)))]) [] [.cells (l_14.set (0 + (IntKind.i64.wrap (n_3 + (l_1.length : Int))).toNat) (.d (.i .u32 (IntKind.u32.wrap n_5)))) []]) .ret)))) :=
 rk_of (by kernel_rfl)
theorem f50_at175 (b_0 : Bool) (l_1 : List D) (b_2 : Bool) (l_3 : List D) (n_4 : Int) (b_5 : Bool) (l_6 : List D) (n_7 n_8 : Int) : rk Tryz.prog pol (.at_ 199 0 [false, true, false, true, true, true, true] (sv 56 [(1, vl b_0 l_1), (5, vl b_2 l_3), (6, vu n_4), (20, vl b_5 l_6), (21, vi n_7), (22, vi n_8)]) [(5, 1)] []) = interp (rk Tryz.prog pol) (brB (decide (n_8 < n_7)) (eC l_6 n_8 1 0 fun a => asI .u32 a fun b => brB (decide (n_8 < (l_1.length : Int))) (eC l_1 n_8 1 0 fun c => asI .u32 c fun e => .call (.at_ 199 0 [true, true, true, false, false, true, true, false, false, true, false, true, true, true, true] (sv 56 [(1, vl b_0 l_1), (5, vl b_2 l_3), (6, vu (IntKind.u64.wrap (IntKind.u64.wrap (n_4 + IntKind.u64.wrap b) + IntKind.u64.wrap e))), (20, vl b_5 l_6), (21, vi n_7), (22, vi n_8)]) [(5, 1)] []) .ret) (.call (.at_ 199 0 [true, true, true, false, false, true, true, false, false, true, false, true, true, true, true] (sv 56 [(1, vl b_0 l_1), (5, vl b_2 l_3), (6, vu (IntKind.u64.wrap (n_4 + IntKind.u64.wrap b))), (20, vl b_5 l_6), (21, vi n_7), (22, vi n_8)]) [(5, 1)] []) .ret)) (ift (headOk 1 l_3) (ift (b_2 || true) (ift (decide (l_3.length + 1 ≤ 4294967296)) (cV (.call 162 [vl (b_2 && false) (l_3 ++ [.i .u32 (IntKind.u32.wrap n_4)])] []) fun f => aL f fun g h => .ret (vl g h, [])))))) :=
 rk_of (by kernel_rfl)
theorem f74_at14639 (b_0 : Bool) (l_1 : List D) (b_2 : Bool) (l_3 : List D) (m_4 : Nat) (b_5 : Bool) (l_6 : List D) (n_7 : Int) (l_8 : List V) : rk Tryz.prog pol (.at_ 198 0 [true, true, false, false, true, false, false, true, false, true, true, true, true] (sv 64 [(0, vl b_0 l_1), (1, vl b_2 l_3), (4, .m 0 0 m_4), (5, vl b_5 l_6), (7, vi n_7)]) [] [.cells l_8 []]) = interp (rk Tryz.prog pol) (cV (.call 218 [vl b_5 l_6, vl b_2 l_3] []) fun a => unT a fun c => ift (c.length == 2) (asD (c.getD 0 (vb false)) fun e => asL e fun f g => asD (c.getD 1 (vb false)) fun h => asB h fun j => brB j (ift (decide (0 ≤ IntKind.i64.wrap (n_7.tdiv 32) ∧ IntKind.i64.wrap (n_7.tdiv 32) < (m_4 : Int))) (ob l_8[0 + (IntKind.i64.wrap (n_7.tdiv 32)).toNat]? fun k => asD k fun n => asI .u32 n fun o => ift (decide (0 ≤ n_7.tmod 32)) (ift (decide (0 ≤ IntKind.i64.wrap (n_7.tdiv 32) ∧ IntKind.i64.wrap (n_7.tdiv 32) < (m_4 : Int))) (ift (decide (0 + (IntKind.i64.wrap (n_7.tdiv 32)).toNat < l_8.length) && true) (.call (.at_ 198 0 [false, true, false, true, true, true, true] (sv 64 [(0, vl b_0 l_1), (1, vl b_2 l_3), (4, .m 0 0 m_4), (5, vl f g), (7, vi (IntKind.i64.wrap (n_7 - 1)))]) [] [.cells (l_8.set (0 + (IntKind.i64.wrap (n_7.tdiv 32)).toNat) (.d (.i .u32 (IntKind.u32.wrap ((BitVec.ofInt IntKind.u32.bits o ||| BitVec.ofInt IntKind.u32.bits (IntKind.u32.wrap (1 * 2 ^ min (n_7.tmod 32).toNat 32))).toNat : Int))))) []]) .ret))))) (.call (.at_ 198 0 [false, true, false, true, true, true, true] (sv 64 [(0, vl b_0 l_1), (1, vl b_2 l_3), (4, .m 0 0 m_4), (5, vl b_5 l_6), (7, vi (IntKind.i64.wrap (n_7 - 1)))]) [] [.cells l_8 []]) .ret))) :=
 rk_of (by kernel_rfl)
theorem f50_at62255 (b_0 : Bool) (l_1 : List D) (b_2 : Bool) (l_3 : List D) (n_4 : Int) (b_5 : Bool) (l_6 : List D) (n_7 n_8 : Int) : rk Tryz.prog pol (.at_ 199 0 [true, true, true, false, false, true, true, false, false, true, false, true, true, true, true] (sv 56 [(1, vl b_0 l_1), (5, vl b_2 l_3), (6, vu n_4), (20, vl b_5 l_6), (21, vi n_7), (22, vi n_8)]) [(5, 1)] []) = interp (rk Tryz.prog pol) (ift (headOk 1 l_3) (ift (b_2 || true) (ift (decide (l_3.length + 1 ≤ 4294967296)) (.call (.at_ 199 0 [false, true, false, true, true, true, true] (sv 56 [(1, vl b_0 l_1), (5, vl (b_2 && false) (l_3 ++ [.i .u32 (IntKind.u32.wrap n_4)])), (6, vu (n_4.fdiv 4294967296)), (20, vl b_5 l_6), (21, vi n_7), (22, vi (IntKind.i64.wrap (n_8 + 1)))]) [(5, 1)] []) .ret)))) :=
 rk_of (by kernel_rfl)
theorem f74_at175_1 (b_0 : Bool) (l_1 : List D) (b_2 : Bool) (l_3 : List D) (m_4 : Nat) (b_5 : Bool) (l_6 : List D) (n_7 : Int) (l_8 : List V) : rk Tryz.prog pol (.at_ 198 0 [false, true, false, true, true, true, true] (sv 64 [(0, vl b_0 l_1), (1, vl b_2 l_3), (4, .m 0 0 m_4), (5, vl b_5 l_6), (7, vi n_7)]) [] [.cells l_8 []]) = interp (rk Tryz.prog pol) (brB (decide (n_7 ≥ 0)) (cV (.call 161 [vl b_5 l_6, vi 1] []) fun a => aL a fun c e => eC l_1 (IntKind.i64.wrap (n_7.tdiv 32)) 1 0 fun f => asI .u32 f fun g => ift (decide (0 ≤ n_7.tmod 32)) (brB (IntKind.u32.wrap ((BitVec.ofInt IntKind.u32.bits (g.fdiv (2 ^ min (n_7.tmod 32).toNat 32)) &&& BitVec.ofInt IntKind.u32.bits 1).toNat : Int) != 0) (cV (.call 160 [vu 1] []) fun h => aL h fun j k => cV (.call 199 [vl c e, vl j k] []) fun n => aL n fun o p => .call (.at_ 198 0 [true, true, false, false, true, false, false, true, false, true, true, true, true] (sv 64 [(0, vl b_0 l_1), (1, vl b_2 l_3), (4, .m 0 0 m_4), (5, vl o p), (7, vi n_7)]) [] [.cells l_8 []]) .ret) (.call (.at_ 198 0 [true, true, false, false, true, false, false, true, false, true, true, true, true] (sv 64 [(0, vl b_0 l_1), (1, vl b_2 l_3), (4, .m 0 0 m_4), (5, vl c e), (7, vi n_7)]) [] [.cells l_8 []]) .ret))) (c1 (.call 162 [.m 0 0 m_4] [.cells l_8 []]) l_8.length [] fun q r => aL q fun s zu => cV (.call 162 [vl b_5 l_6] []) fun v => aL v fun w x => .ret (.t [vl s zu, vl w x, vb true], []))) :=
 rk_of (by kernel_rfl)
end Go.Dn.Dec
namespace Go.Dn.Dec
open Go.Proofs
def cellsOf (a : List Int) : List V := (ints .u32 a).map V.d
theorem unDs_map : ∀ l : List D, unDs (l.map V.d) = some l
 | [] => rfl
 | d :: l => by simp [unDs, unD, unDs_map l]
theorem cellsOf_len (a : List Int) : (cellsOf a).length = a.length := by simp [cellsOf]
theorem cellsOf_get (a : List Int) (i : Nat) : (cellsOf a)[i]? = a[i]?.map fun z => V.d (.i .u32 z) := by simp [cellsOf]; rfl
theorem view_cells (a : List Int) (n : Nat) (h : n ≤ a.length) : o_tail [Ob.cells (cellsOf a) []] 1 (V.m 0 0 n) = some (ints .u32 (a.take n)) := by
 simp only [o_tail, view, oget, List.length_nil, if_true]
 rw [if_pos (by rw [cellsOf_len]; omega)]
 simp only [List.drop_zero, cellsOf, ← List.map_take, take_ints, unDs_map]
theorem isEmpty_ints (k : IntKind) (a : List Int) : (ints k a).isEmpty = a.isEmpty := by cases a <;> rfl
theorem nl_of {a : List Int} {n : Nat} (h : limbs n = a) : nl n = .l a.isEmpty (ints .u32 a) := by
 unfold nl
 rw [h]
 congr 1
 cases a with
 | nil => simp [(limbs_nil_iff n).1 h]
 | cons z a =>
  have : n ≠ 0 := fun e => by rw [(limbs_nil_iff n).2 e] at h; cases h
  simp [this]
theorem limbs_take {a : List Int} (ha : U32 a) {n : Nat} (hn : n < a.length) (hz : a[n] ≠ 0) : limbs (valL (a.take (n + 1))) = a.take (n + 1) := by
 refine limbs_val (ha.take _) fun z hz' => ?_
 rw [List.getLast?_eq_getElem?, List.length_take, Nat.min_eq_left (by omega), List.getElem?_take_of_lt (by omega), Nat.add_sub_cancel, List.getElem?_eq_getElem hn] at hz'
 injection hz' with hz'; rw [← hz']; exact hz
theorem cut_loop (b : Bool) (a : List Int) (ha : U32 a) (hb : a.length ≤ 1000000) : ∀ n : Nat, n ≤ a.length → valL (a.take n) = valL a →
  rk Tryz.prog pol (Task.at_ 162 0 [false, false, true, true] (sv 22 [(0, V.d (D.l b (ints .u32 a))), (3, V.d (D.i .i64 (n : Int)))]) [] []) = some (.d (nl (valL a)), [])
 | 0, hn, hv => by
  rw [f51_at19]
  have h0 : valL a = 0 := by rw [← hv]; rfl
  have e : nl (valL a) = .l true [] := by rw [h0]; exact nl_of limbs_zero
  simp [f51_at195, e]
 | n + 1, hn, hv => by
  rw [f51_at19]
  have hx : n < a.length := by omega
  have gx := List.getElem?_eq_getElem hx
  have hp : (0 : Int) < (n : Int) + 1 := by omega
  have hw : IntKind.i64.wrap (n : Int) = (n : Int) := by rw [wrap_i64] <;> omega
  have hl : n + 1 ≤ 4294967296 := by omega
  by_cases h0 : a[n] = 0
  ·have ih := cut_loop b a ha hb n (by omega) (by rw [← hv]; exact (val_take_zero a n (by rw [gx, h0])).symm)
   simp [hp, hw, gx, h0, f51_at195, ih]
  ·have e : nl (valL a) = .l (a.take (n + 1)).isEmpty (ints .u32 (a.take (n + 1))) := by rw [← hv]; exact nl_of (limbs_take ha hx h0)
   have hle : (n : Int) + 1 ≤ (a.length : Int) := by omega
   have hp2 : (0 : Int) ≤ (n : Int) + 1 := by omega
   have ht : ((n : Int) + 1).toNat = n + 1 := by omega
   have hl2 : n + 1 ≤ a.length := by omega
   simp [hp, hw, gx, h0, f51_at195, hle, hp2, ht, take_ints, hl, e, isEmpty_ints, hl2]
theorem cut_run (b : Bool) (a : List Int) (ha : U32 a) (hb : a.length ≤ 1000000) : rk Tryz.prog pol (Task.call 162 [V.d (D.l b (ints .u32 a))] []) = some (.d (nl (valL a)), []) := by
 rw [f51]
 simp [cut_loop b a ha hb a.length (Nat.le_refl _) (by rw [List.take_length])]
theorem cutm_loop (a : List Int) (ha : U32 a) (hb : a.length ≤ 1000000) : ∀ n : Nat, n ≤ a.length → valL (a.take n) = valL a →
  rk Tryz.prog pol (Task.at_ 162 1 [false, false, true, true] (sv 22 [(0, V.m 0 0 a.length), (3, V.d (D.i .i64 (n : Int)))]) [] [Ob.cells (cellsOf a) []]) = some (.d (nl (valL a)), [Ob.cells (cellsOf a) []])
 | 0, hn, hv => by
  rw [f51_at19_1]
  have h0 : valL a = 0 := by rw [← hv]; rfl
  have e : nl (valL a) = .l true [] := by rw [h0]; exact nl_of limbs_zero
  have hv0 := view_cells a 0 (by omega)
  simp [f51_at195_1, e, hv0, ints]
 | n + 1, hn, hv => by
  rw [f51_at19_1]
  have hx : n < a.length := by omega
  have gx := List.getElem?_eq_getElem hx
  have hp : (0 : Int) < (n : Int) + 1 := by omega
  have hw : IntKind.i64.wrap (n : Int) = (n : Int) := by rw [wrap_i64] <;> omega
  have hl : n + 1 ≤ 4294967296 := by omega
  have hni : (n : Int) < (a.length : Int) := by omega
  by_cases h0 : a[n] = 0
  ·have ih := cutm_loop a ha hb n (by omega) (by rw [← hv]; exact (val_take_zero a n (by rw [gx, h0])).symm)
   simp [hp, hw, hni, cellsOf_get, gx, h0, f51_at195_1, ih]
  ·have e : nl (valL a) = .l (a.take (n + 1)).isEmpty (ints .u32 (a.take (n + 1))) := by rw [← hv]; exact nl_of (limbs_take ha hx h0)
   have hle : (n : Int) + 1 ≤ (a.length : Int) := by omega
   have hp2 : (0 : Int) ≤ (n : Int) + 1 := by omega
   have ht : ((n : Int) + 1).toNat = n + 1 := by omega
   have hl2 : n + 1 ≤ a.length := by omega
   have hv1 := view_cells a (n + 1) hl2
   simp [hp, hw, hni, cellsOf_get, gx, h0, f51_at195_1, hle, hp2, ht, hv1, hl, e, isEmpty_ints, hl2]
theorem cutm_run (a : List Int) (ha : U32 a) (hb : a.length ≤ 1000000) : rk Tryz.prog pol (Task.call 162 [V.m 0 0 a.length] [Ob.cells (cellsOf a) []]) = some (.d (nl (valL a)), [Ob.cells (cellsOf a) []]) := by
 rw [f51m]
 simp [cutm_loop a ha hb a.length (Nat.le_refl _) (by rw [List.take_length])]
end Go.Dn.Dec
namespace Go.Dn.Dec
open Go.Proofs
theorem u32_wrap (n : Int) : IntKind.u32.wrap n = n % 4294967296 := by
 have e : ((2 : Int) ^ IntKind.u32.bits) = 4294967296 := by decide
 simp [IntKind.wrap, IntKind.signed, e]
theorem u64_wrap (n : Int) : IntKind.u64.wrap n = n % 18446744073709551616 := by
 have e : ((2 : Int) ^ IntKind.u64.bits) = 18446744073709551616 := by decide
 simp [IntKind.wrap, IntKind.signed, e]
theorem fdiv_W (n : Nat) : ((n : Int)).fdiv 4294967296 = ((n / W : Nat) : Int) := by
 rw [Int.fdiv_eq_ediv_of_nonneg _ (by decide)]; unfold W; omega
theorem mod_W (n : Nat) : (n : Int) % 4294967296 = ((n % W : Nat) : Int) := by unfold W; omega
theorem mod_64 {n : Nat} (h : n < 18446744073709551616) : (n : Int) % 18446744073709551616 = (n : Int) := by omega
theorem mod_32 {n : Nat} (h : n < 4294967296) : (n : Int) % 4294967296 = (n : Int) := by omega
theorem of_run (n : Nat) (h : n < 18446744073709551616) : rk Tryz.prog pol (Task.call 160 [V.d (D.i .u64 (n : Int))] []) = some (.d (nl n), []) := by
 rw [f23]
 have e : [D.i IntKind.u32 (IntKind.u32.wrap n), D.i IntKind.u32 (IntKind.u32.wrap ((n : Int).fdiv 4294967296))] = ints .u32 [((n % W : Nat) : Int), ((n / W : Nat) : Int)] := by
  rw [u32_wrap, u32_wrap, fdiv_W, mod_W, mod_32 (by unfold W; omega)]; rfl
 have hv : valL [((n % W : Nat) : Int), ((n / W : Nat) : Int)] = n := by
  simp only [valL, Int.toNat_natCast]
  have := Nat.mod_add_div n W; omega
 have hu : U32 [((n % W : Nat) : Int), ((n / W : Nat) : Int)] := by
  intro z hz
  have h1 := Nat.mod_lt n W_pos
  have h2 : n / W < 4294967296 := by unfold W; omega
  unfold W at *
  simp at hz
  rcases hz with rfl | rfl <;> omega
 have hc := cut_run true _ hu (by simp)
 rw [hv] at hc
 rw [e]
 generalize ints .u32 [((n % W : Nat) : Int), ((n / W : Nat) : Int)] = L at hc ⊢
 simp [hc, nl]
theorem drop_val {a : List Int} {i : Nat} (h : i < a.length) : valL (a.drop i) = a[i].toNat + W * valL (a.drop (i + 1)) := by
 rw [List.drop_eq_getElem_cons h, valL]
theorem U32.get {a : List Int} (h : U32 a) {i : Nat} (hi : i < a.length) : ∃ x : Nat, a[i] = (x : Int) ∧ x < 4294967296 := by
 have := h _ (List.getElem_mem hi)
 exact ⟨a[i].toNat, by omega, by omega⟩
theorem U32.snoc {a : List Int} (h : U32 a) {n : Nat} (hn : n < 4294967296) : U32 (a ++ [(n : Int)]) := h.append fun z hz => by simp at hz; omega
theorem mulW {x y : Nat} (hx : x < 4294967296) (hy : y < 4294967296) : x * y ≤ 18446744065119617025 := by
 have := Nat.mul_le_mul (show x ≤ 4294967295 by omega) (show y ≤ 4294967295 by omega)
 omega
theorem times_loop (y : Nat) (hy : y < 4294967296) (b : Bool) (a : List Int) (ha : U32 a) (hb : a.length ≤ 100000) : ∀ (d i : Nat) (b1 : Bool) (out : List Int) (c : Nat), i + d = a.length → U32 out → out.length = i → c < 4294967296 →
  rk Tryz.prog pol (Task.at_ 196 0 [false, true, false, true, true, true]
   (sv 40 [(1, V.d (D.i .u32 (y : Int))), (5, V.d (D.l b1 (ints .u32 out))), (6, V.d (D.i .u64 (c : Int))), (13, V.d (D.l b (ints .u32 a))), (14, V.d (D.i .i64 (a.length : Int))), (15, V.d (D.i .i64 (i : Int)))]) [(5, 1)] []) =
  some (.d (nl (valL out + W ^ i * (c + valL (a.drop i) * y))), []) := by
 intro d
 induction d with
 | zero =>
  intro i b1 out c hi hu hl hc
  rw [f52_at87]
  have h3 : ¬ ((i : Int) < (a.length : Int)) := by omega
  have hd : a.drop i = [] := List.drop_eq_nil_of_le (by omega)
  have hw : IntKind.u32.wrap (c : Int) = (c : Int) := by rw [u32_wrap, mod_32 hc]
  have hcut := cut_run false (out ++ [(c : Int)]) (hu.snoc hc) (by simp; omega)
  have hv : valL (out ++ [(c : Int)]) = valL out + W ^ i * (c + valL (a.drop i) * y) := by
   rw [val_append, hl, hd]; simp [valL]
  rw [hv] at hcut
  have hlen : i ≤ 4294967295 := by omega
  simp [h3, hw, hl, hlen, ints_snoc, hcut, nl, bnd]
 | succ d ih =>
  intro i b1 out c hi hu hl hc
  rw [f52_at87]
  have hx : i < a.length := by omega
  have gx := List.getElem?_eq_getElem hx
  obtain ⟨x, ex, hx32⟩ := ha.get hx
  have h3 : ((i : Int) < (a.length : Int)) := by omega
  have hlen : i ≤ 4294967295 := by omega
  have hm := mulW hx32 hy
  have hw1 : IntKind.u64.wrap ((c : Int) + IntKind.u64.wrap (IntKind.u64.wrap (x : Int) * IntKind.u64.wrap (y : Int))) = ((c + x * y : Nat) : Int) := by
   rw [u64_wrap (x : Int), u64_wrap (y : Int), mod_64 (by omega), mod_64 (by omega), ← Int.natCast_mul, u64_wrap ((x * y : Nat) : Int), mod_64 (by omega), ← Int.natCast_add, u64_wrap, mod_64 (by omega)]
  have hw2 : IntKind.u32.wrap ((c + x * y : Nat) : Int) = (((c + x * y) % W : Nat) : Int) := by rw [u32_wrap, mod_W]
  have hw3 : ((c + x * y : Nat) : Int).fdiv 4294967296 = (((c + x * y) / W : Nat) : Int) := fdiv_W _
  have hw : IntKind.i64.wrap ((i : Int) + 1) = ((i + 1 : Nat) : Int) := by rw [wrap_i64] <;> omega
  have hmod : (c + x * y) % W < 4294967296 := Nat.mod_lt _ W_pos
  have hdiv : (c + x * y) / W < 4294967296 := by unfold W; omega
  have ih' := ih (i + 1) false (out ++ [(((c + x * y) % W : Nat) : Int)]) ((c + x * y) / W) (by omega) (hu.snoc hmod) (by simp [hl]) hdiv
  have hval : valL (out ++ [(((c + x * y) % W : Nat) : Int)]) + W ^ (i + 1) * ((c + x * y) / W + valL (a.drop (i + 1)) * y) = valL out + W ^ i * (c + valL (a.drop i) * y) := by
   rw [val_append, hl, drop_val hx, ex]
   simp only [valL, Int.toNat_natCast, Nat.mul_zero, Nat.add_zero]
   rw [Nat.pow_succ, Nat.add_assoc, Nat.mul_assoc, ← Nat.mul_add]
   congr 2
   have := Nat.mod_add_div (c + x * y) W
   rw [Nat.mul_add, ← Nat.add_assoc, this, Nat.add_mul, Nat.mul_assoc, Nat.add_assoc]
  rw [hval] at ih'
  rw [← ints_snoc] at ih'
  generalize hT : (c + x * y : Nat) = T at hw1 hw2 hw3 ih'
  simp only [interp_brB, h3, decide_true, if_true, interp_ob', interp_ift', interp_asI, getI_nat, get_ints, gx, ex, Option.map_some, Option.bind_some, width_i, cells_i, beq_self_eq_true, head_ints, Bool.or_true, len_ints, hl, Bool.and_false, hw1, hw2, hw3, hw, Int.toNat_natCast, List.getElem?_cons_zero, interp_call_ret]
  rw [if_pos (by simpa using hlen)]
  exact ih'
theorem times_run (y : Nat) (hy : y < 4294967296) (b : Bool) (x : Nat) (hx : (limbs x).length ≤ 100000) : rk Tryz.prog pol (Task.call 196 [V.d (D.l b (ints .u32 (limbs x))), V.d (D.i .u32 (y : Int))] []) = some (.d (nl (x * y)), []) := by
 rw [f52]
 have h := times_loop y hy b (limbs x) (limbs_u32 x) hx (limbs x).length 0 false [] 0 (by omega) U32.nil rfl (by omega)
 rw [Int.natCast_zero, ints_nil] at h
 simp only [valL, Nat.pow_zero, Nat.one_mul, Nat.zero_add, List.drop_zero, val_limbs] at h
 have hw : IntKind.i64.wrap (((limbs x).length : Int) + 1) = ((limbs x).length : Int) + 1 := by rw [wrap_i64] <;> omega
 have h1 : (0 : Int) ≤ ((limbs x).length : Int) + 1 := by omega
 have h2 : ((limbs x).length : Int) + 1 ≤ 4294967296 := by omega
 simp only [len_ints, hw, interp_ift', decide_eq_true h1, decide_eq_true h2, if_true, interp_call_ret]
 exact h
end Go.Dn.Dec
namespace Go.Dn.Dec
open Go.Proofs
def ws (n : Nat) : List D := ints .u32 (limbs n)
def nb (n : Nat) : Bool := decide (n = 0)
theorem nl_ws (n : Nat) : nl n = .l (nb n) (ws n) := rfl
@[simp] theorem ws_len (n : Nat) : (ws n).length = (limbs n).length := by simp [ws]
@[simp] theorem ws_head (n : Nat) : headOk 1 (ws n) = true := by simp [ws]
theorem ws_zero : ws 0 = [] := by simp [ws, limbs_zero, ints]
theorem nb_zero : nb 0 = true := rfl
def Fits (n : Nat) : Prop := n < W ^ 10000
theorem limbs_len {n k : Nat} (h : n < W ^ k) : (limbs n).length ≤ k := by
 induction k generalizing n with
 | zero =>
  have : n = 0 := by simpa using h
  rw [this, limbs_zero]; simp
 | succ k ih =>
  by_cases h0 : n = 0
  ·rw [h0, limbs_zero]; simp
  ·rw [limbs_pos h0, List.length_cons]
   have : n / W < W ^ k := by
    rw [Nat.pow_succ] at h
    exact Nat.div_lt_of_lt_mul (by rw [Nat.mul_comm]; exact h)
   have := ih this; omega
theorem Fits.len {n : Nat} (h : Fits n) : (limbs n).length ≤ 10000 := limbs_len h
theorem Fits.le {m n : Nat} (h : Fits n) (hm : m ≤ n) : Fits m := Nat.lt_of_le_of_lt hm h
theorem of_ws (n : Nat) (h : n < 18446744073709551616) : rk Tryz.prog pol (Task.call 160 [V.d (D.i .u64 (n : Int))] []) = some (.d (.l (nb n) (ws n)), []) := of_run n h
theorem times_ws (y : Nat) (hy : y < 4294967296) (b : Bool) (x : Nat) (hx : Fits x) : rk Tryz.prog pol (Task.call 196 [V.d (D.l b (ws x)), V.d (D.i .u32 (y : Int))] []) = some (.d (.l (nb (x * y)) (ws (x * y))), []) :=
 times_run y hy b x (by have := hx.len; omega)
set_option exponentiation.threshold 400000 in
theorem fits_pow {n : Nat} (h : n < 10000) : Fits (10 ^ n) :=
 Nat.lt_of_le_of_lt (Nat.pow_le_pow_left (show 10 ≤ W by decide) n) (Nat.pow_lt_pow_right (by decide) h)
theorem ten_loop : ∀ (k : Nat) (v : Nat), Fits (v * 10 ^ k) → k ≤ 1000 →
  rk Tryz.prog pol (Task.at_ 166 0 [false, false, true, true, true] (sv 18 [(0, V.d (D.i .i64 (k : Int))), (3, V.d (D.l (nb v) (ws v)))]) [] []) = some (.d (.l (nb (v * 10 ^ k)) (ws (v * 10 ^ k))), [])
 | 0, v, hv, hk => by
  rw [f25_at39]
  simp
 | k + 1, v, hv, hk => by
  rw [f25_at39]
  have hle : v ≤ v * 10 ^ (k + 1) := Nat.le_mul_of_pos_right _ (Nat.pow_pos (by decide))
  have ht : rk Tryz.prog pol (Task.call 196 [V.d (D.l (nb v) (ws v)), V.d (D.i .u32 10)] []) = some (.d (.l (nb (v * 10)) (ws (v * 10))), []) := times_ws 10 (by decide) (nb v) v (hv.le hle)
  have e : v * 10 * 10 ^ k = v * 10 ^ (k + 1) := by rw [Nat.pow_succ, Nat.mul_assoc, Nat.mul_comm 10]
  have ih := ten_loop k (v * 10) (by rw [e]; exact hv) (by omega)
  have hp : (0 : Int) < (k : Int) + 1 := by omega
  have hw : IntKind.i64.wrap (k : Int) = (k : Int) := by rw [wrap_i64] <;> omega
  rw [e] at ih
  simp [hp, hw, ht, ih]
theorem ten_ws (n : Nat) (hn : n ≤ 1000) : rk Tryz.prog pol (Task.call 166 [V.d (D.i .i64 (n : Int))] []) = some (.d (.l (nb (10 ^ n)) (ws (10 ^ n))), []) := by
 rw [f25]
 have h1 : rk Tryz.prog pol (Task.call 160 [V.d (D.i .u64 1)] []) = some (.d (.l (nb 1) (ws 1)), []) := of_ws 1 (by decide)
 have h2 := ten_loop n 1 (by rw [Nat.one_mul]; exact fits_pow (by omega)) hn
 rw [Nat.one_mul] at h2
 have hc1 : ¬ ((n : Int) < 0) := by omega
 have hc2 : ¬ ((1000 : Int) < (n : Int)) := by omega
 simp [hc1, hc2, f25_at13, h1, h2]
end Go.Dn.Dec
namespace Go.Dn.Dec
open Go.Proofs
theorem val_set : ∀ (l : List Int) (j : Nat) (z : Int) (h : j < l.length), valL (l.set j z) + W ^ j * l[j].toNat = valL l + W ^ j * z.toNat
 | [], j, z, h => by simp at h
 | x :: l, 0, z, h => by simp [valL]; omega
 | x :: l, j + 1, z, h => by
  have ih := val_set l j z (by simpa using h)
  simp only [List.set_cons_succ, valL, List.getElem_cons_succ]
  rw [Nat.pow_succ, Nat.mul_comm (W ^ j) W, Nat.mul_assoc, Nat.mul_assoc, Nat.add_assoc, ← Nat.mul_add, ih, Nat.mul_add, Nat.add_assoc]
theorem U32.set {a : List Int} (h : U32 a) (j : Nat) {n : Nat} (hn : n < 4294967296) : U32 (a.set j (n : Int)) := fun z hz => by
 rcases List.mem_or_eq_of_mem_set hz with hz | rfl
 ·exact h z hz
 ·omega
theorem cells_set (a : List Int) (j : Nat) (z : Int) : (cellsOf a).set j (V.d (.i .u32 z)) = cellsOf (a.set j z) := by
 simp [cellsOf, ints, List.map_set]
theorem zeros_set {a : List Int} {j m : Nat} (h : ∀ k, m ≤ k → k < a.length → a[k]? = some 0) (hj : j < m) (z : Int) : ∀ k, m ≤ k → k < (a.set j z).length → (a.set j z)[k]? = some 0 := by
 intro k hk hl
 rw [List.getElem?_set_ne (by omega)]
 exact h k hk (by simpa using hl)
def inT (by_ bx b2 : Bool) (xs : List D) (y : List Int) (n i x : Nat) (c : Nat) (n8 n9 : Int) (k : Nat) (out : List Int) : Task :=
 Task.at_ 165 0 [false, true, false, true, true, false, false, true, true, false, false, true, false, true, true]
   (sv 68 [(1, V.d (D.l by_ (ints .u32 y))), (5, V.m 0 0 n), (6, V.d (D.i .i64 (i : Int))), (7, V.d (D.i .u32 (x : Int))), (8, V.d (D.i .u64 (c : Int))), (18, V.d (D.l bx xs)), (19, V.d (D.i .i64 n8)), (20, V.d (D.i .i64 n9)), (25, V.d (D.l b2 (ints .u32 y))), (26, V.d (D.i .i64 (y.length : Int))), (27, V.d (D.i .i64 (k : Int)))])
   [] [Ob.cells (cellsOf out) []]
theorem mul_inner_loop (x : Nat) (hx : x < 4294967296) (bx by_ b2 : Bool) (xs : List D) (y : List Int) (hy : U32 y) (i n : Nat) (hn : i + y.length < n) (hyl : n ≤ 1000000) (n8 n9 : Int) :
  ∀ (d k : Nat) (c : Nat) (out : List Int), k + d = y.length → U32 out → out.length = n → c < 4294967296 → (∀ j, i + y.length ≤ j → j < out.length → out[j]? = some 0) →
  ∃ (c' : Nat) (out' : List Int), U32 out' ∧ out'.length = n ∧ c' < 4294967296 ∧ (∀ j, i + y.length ≤ j → j < out'.length → out'[j]? = some 0) ∧
   valL out' + W ^ (i + y.length) * c' = valL out + W ^ (i + k) * (c + x * valL (y.drop k)) ∧
   rk Tryz.prog pol (inT by_ bx b2 xs y n i x c n8 n9 k out) = rk Tryz.prog pol (inT by_ bx b2 xs y n i x c' n8 n9 y.length out') := by
 intro d
 induction d with
 | zero =>
  intro k c out hk hu hl hc hz
  have hky : k = y.length := by omega
  subst hky
  refine ⟨c, out, hu, hl, hc, hz, ?_, rfl⟩
  rw [List.drop_length]; simp [valL]
 | succ d ih =>
  intro k c out hk hu hl hc hz
  have hky : k < y.length := by omega
  have gy := List.getElem?_eq_getElem hky
  obtain ⟨w, ew, hw32⟩ := hy.get hky
  have hj : i + k < out.length := by omega
  have gj := List.getElem?_eq_getElem hj
  obtain ⟨o, eo, ho32⟩ := hu.get hj
  have hm := mulW hx hw32
  have hT : c + (x * w + o) < 18446744073709551616 := by omega
  have hmod : (c + (x * w + o)) % W < 4294967296 := Nat.mod_lt _ W_pos
  have hdiv : (c + (x * w + o)) / W < 4294967296 := by unfold W; omega
  obtain ⟨c', out', u1, u2, u3, u4, u5, u6⟩ := ih (k + 1) ((c + (x * w + o)) / W) (out.set (i + k) (((c + (x * w + o)) % W : Nat) : Int)) (by omega) (hu.set _ hmod) (by simpa using hl) hdiv (zeros_set hz (by omega) _)
  refine ⟨c', out', u1, u2, u3, u4, ?_, ?_⟩
  ·rw [u5]
   have hs := val_set out (i + k) (((c + (x * w + o)) % W : Nat) : Int) hj
   rw [eo] at hs
   simp only [Int.toNat_natCast] at hs
   have hd := Nat.mod_add_div (c + (x * w + o)) W
   rw [drop_val hky, ew]
   simp only [Int.toNat_natCast]
   have e1 : W ^ (i + (k + 1)) * ((c + (x * w + o)) / W + x * valL (y.drop (k + 1))) = W ^ (i + k) * (W * ((c + (x * w + o)) / W)) + W ^ (i + k) * (W * (x * valL (y.drop (k + 1)))) := by
    rw [show i + (k + 1) = (i + k) + 1 from rfl, Nat.pow_succ, Nat.mul_assoc, Nat.mul_add, Nat.mul_add]
   have e2 : W ^ (i + k) * (c + x * (w + W * valL (y.drop (k + 1)))) = W ^ (i + k) * (c + x * w) + W ^ (i + k) * (W * (x * valL (y.drop (k + 1)))) := by
    rw [← Nat.mul_add]; congr 1
    rw [Nat.mul_add, ← Nat.add_assoc]; congr 1
    rw [Nat.mul_left_comm]
   rw [e1, e2]
   have e3 : W ^ (i + k) * ((c + (x * w + o)) % W) + W ^ (i + k) * (W * ((c + (x * w + o)) / W)) = W ^ (i + k) * (c + x * w) + W ^ (i + k) * o := by
    rw [← Nat.mul_add, hd, ← Nat.mul_add, Nat.add_assoc]
   omega
  ·rw [← u6]
   unfold inT
   rw [f24_at44235]
   have h3 : ((k : Int) < (y.length : Int)) := by omega
   have hw1 : IntKind.i64.wrap ((i : Int) + (k : Int)) = ((i + k : Nat) : Int) := by rw [wrap_i64] <;> omega
   have hw2 : IntKind.i64.wrap ((k : Int) + 1) = ((k + 1 : Nat) : Int) := by rw [wrap_i64] <;> omega
   have hw3 : IntKind.u64.wrap ((c : Int) + IntKind.u64.wrap (IntKind.u64.wrap (IntKind.u64.wrap (x : Int) * IntKind.u64.wrap (w : Int)) + IntKind.u64.wrap (o : Int))) = ((c + (x * w + o) : Nat) : Int) := by
    rw [u64_wrap (x : Int), u64_wrap (w : Int), u64_wrap (o : Int), mod_64 (by omega), mod_64 (by omega), mod_64 (by omega), ← Int.natCast_mul, u64_wrap ((x * w : Nat) : Int), mod_64 (by omega), ← Int.natCast_add, u64_wrap ((x * w + o : Nat) : Int), mod_64 (by omega), ← Int.natCast_add, u64_wrap, mod_64 hT]
   have hw4 : IntKind.u32.wrap ((c + (x * w + o) : Nat) : Int) = (((c + (x * w + o)) % W : Nat) : Int) := by rw [u32_wrap, mod_W]
   have hw5 : ((c + (x * w + o) : Nat) : Int).fdiv 4294967296 = (((c + (x * w + o)) / W : Nat) : Int) := fdiv_W _
   generalize (c + (x * w + o) : Nat) = T at hw3 hw4 hw5 ⊢
   have hb1 : (0 : Int) ≤ ((i + k : Nat) : Int) ∧ ((i + k : Nat) : Int) < (n : Int) := by omega
   have hb2 : i + k < (cellsOf out).length := by rw [cellsOf_len]; exact hj
   simp only [interp_brB, h3, decide_true, if_true, interp_ob', interp_ift', interp_asI, getI_nat, get_ints, gy, ew, Option.map_some, Option.bind_some, width_i, cells_i, beq_self_eq_true, hw1, hw2, Int.toNat_natCast, List.getElem?_cons_zero, interp_call_ret, hb1, and_self, Nat.zero_add, cellsOf_get, gj, eo, asD_d, hw3, hw4, hw5, hb2, Bool.and_true, decide_eq_true_eq, cells_set]
def outT (by_ bx : Bool) (x y : List Int) (n i : Nat) (out : List Int) : Task :=
 Task.at_ 165 0 [false, true, false, true, true] (sv 68 [(1, V.d (D.l by_ (ints .u32 y))), (5, V.m 0 0 n), (18, V.d (D.l bx (ints .u32 x))), (19, V.d (D.i .i64 (x.length : Int))), (20, V.d (D.i .i64 (i : Int)))]) [] [Ob.cells (cellsOf out) []]
theorem mul_row (by_ bx : Bool) (x y : List Int) (hx : U32 x) (hy : U32 y) (n : Nat) (hn : n = x.length + y.length + 1) (hb : n ≤ 1000000) (i : Nat) (hi : i < x.length) (out : List Int) (hu : U32 out) (hl : out.length = n) (hz : ∀ j, i + y.length ≤ j → j < out.length → out[j]? = some 0) :
  ∃ out', U32 out' ∧ out'.length = n ∧ (∀ j, (i + 1) + y.length ≤ j → j < out'.length → out'[j]? = some 0) ∧ valL out' = valL out + W ^ i * (x[i].toNat * valL y) ∧
   rk Tryz.prog pol (outT by_ bx x y n i out) = rk Tryz.prog pol (outT by_ bx x y n (i + 1) out') := by
 have gx := List.getElem?_eq_getElem hi
 obtain ⟨a, ea, ha32⟩ := hx.get hi
 obtain ⟨c', o', u1, u2, u3, u4, u5, u6⟩ := mul_inner_loop a ha32 bx by_ by_ (ints .u32 x) y hy i n (by omega) hb (x.length : Int) (i : Int) y.length 0 0 out (by omega) hu hl (by decide) hz
 have hj : i + y.length < o'.length := by omega
 refine ⟨o'.set (i + y.length) (c' : Int), u1.set _ u3, by simpa using u2, fun j h1 h2 => ?_, ?_, ?_⟩
 ·rw [List.getElem?_set_ne (by omega)]
  exact u4 j (by omega) (by simpa using h2)
 ·have hs := val_set o' (i + y.length) (c' : Int) hj
  have h0 : o'[i + y.length] = 0 := by
   have := u4 (i + y.length) (Nat.le_refl _) hj
   rw [List.getElem?_eq_getElem hj] at this
   exact Option.some.inj this
  rw [h0] at hs
  simp only [Int.toNat_natCast, Int.toNat_zero, Nat.mul_zero, Nat.add_zero] at hs
  rw [hs, u5, List.drop_zero, Nat.add_zero, Nat.zero_add, ea, Int.toNat_natCast]
 ·have e1 : rk Tryz.prog pol (outT by_ bx x y n i out) = rk Tryz.prog pol (inT by_ bx by_ (ints .u32 x) y n i a 0 (x.length : Int) (i : Int) 0 out) := by
   unfold outT inT
   rw [f24_at43]
   have h3 : ((i : Int) < (x.length : Int)) := by omega
   simp [h3, gx, ea]
  rw [e1, u6]
  unfold inT outT
  rw [f24_at44235]
  have h3 : ¬ ((y.length : Int) < (y.length : Int)) := by omega
  have hw1 : IntKind.i64.wrap ((i : Int) + (y.length : Int)) = ((i + y.length : Nat) : Int) := by rw [wrap_i64] <;> omega
  have hw2 : IntKind.i64.wrap ((i : Int) + 1) = ((i + 1 : Nat) : Int) := by rw [wrap_i64] <;> omega
  have hw4 : IntKind.u32.wrap (c' : Int) = (c' : Int) := by rw [u32_wrap, mod_32 u3]
  have hb1 : (0 : Int) ≤ ((i + y.length : Nat) : Int) ∧ ((i + y.length : Nat) : Int) < (n : Int) := by omega
  have hb2 : i + y.length < (cellsOf o').length := by rw [cellsOf_len]; exact hj
  simp only [interp_brB, h3, decide_false, Bool.false_eq_true, if_false, interp_ift', len_ints, hw1, hw2, hw4, Int.toNat_natCast, interp_call_ret, hb1, and_self, decide_true, if_true, Nat.zero_add, hb2, Bool.and_true, decide_eq_true_eq, cells_set]
theorem mul_outer (by_ bx : Bool) (x y : List Int) (hx : U32 x) (hy : U32 y) (n : Nat) (hn : n = x.length + y.length + 1) (hb : n ≤ 1000000) : ∀ (d i : Nat) (out : List Int), i + d = x.length → U32 out → out.length = n → (∀ j, i + y.length ≤ j → j < out.length → out[j]? = some 0) → valL out = valL (x.take i) * valL y →
  rk Tryz.prog pol (outT by_ bx x y n i out) = some (.d (.l (nb (valL x * valL y)) (ws (valL x * valL y))), []) := by
 intro d
 induction d with
 | zero =>
  intro i out hi hu hl hz hv
  have hix : i = x.length := by omega
  subst hix
  rw [List.take_length] at hv
  unfold outT
  rw [f24_at43]
  have h3 : ¬ ((x.length : Int) < (x.length : Int)) := by omega
  have hc := cutm_run out hu (by omega)
  rw [hl, hv, nl_ws] at hc
  simp [hc]
 | succ d ih =>
  intro i out hi hu hl hz hv
  have hix : i < x.length := by omega
  obtain ⟨o', u1, u2, u3, u4, u5⟩ := mul_row by_ bx x y hx hy n hn hb i hix out hu hl hz
  rw [u5]
  refine ih (i + 1) o' (by omega) u1 u2 u3 ?_
  rw [u4, hv, List.take_add_one, List.getElem?_eq_getElem hix, val_append]
  simp only [Option.toList_some, valL, Nat.mul_zero, Nat.add_zero, List.length_take, Nat.min_eq_left (Nat.le_of_lt hix)]
  rw [Nat.add_mul, Nat.mul_assoc]
theorem val_replicate (n : Nat) : valL (List.replicate n 0) = 0 := by
 induction n with
 | zero => rfl
 | succ n ih => simp [List.replicate_succ, valL, ih]
theorem cells_replicate (n : Nat) : List.replicate n (V.d (D.i .u32 0)) = cellsOf (List.replicate n 0) := by simp [cellsOf, ints]
theorem mul_ws (b c : Bool) (x y : Nat) (hx : Fits x) (hy : Fits y) : rk Tryz.prog pol (Task.call 165 [V.d (D.l b (ws x)), V.d (D.l c (ws y))] []) = some (.d (.l (nb (x * y)) (ws (x * y))), []) := by
 rw [f24]
 have lx := hx.len
 have ly := hy.len
 have h := mul_outer c b (limbs x) (limbs y) (limbs_u32 x) (limbs_u32 y) ((limbs x).length + (limbs y).length + 1) rfl (by omega) (limbs x).length 0 (List.replicate ((limbs x).length + (limbs y).length + 1) 0) (by omega)
  (fun z hz => by rw [List.mem_replicate] at hz; omega) (by simp) (fun j _ hj => by simp at hj; simp [hj]) (by rw [val_replicate]; simp [valL])
 rw [val_limbs, val_limbs] at h
 unfold outT at h
 rw [← cells_replicate, Int.natCast_zero] at h
 have hw1 : IntKind.i64.wrap (((limbs x).length : Int) + ((limbs y).length : Int)) = (((limbs x).length + (limbs y).length : Nat) : Int) := by rw [wrap_i64] <;> omega
 have hw2 : IntKind.i64.wrap ((((limbs x).length + (limbs y).length : Nat) : Int) + 1) = (((limbs x).length + (limbs y).length + 1 : Nat) : Int) := by rw [wrap_i64] <;> omega
 have c1 : (0 : Int) ≤ (((limbs x).length + (limbs y).length + 1 : Nat) : Int) := by omega
 have c2 : (((limbs x).length + (limbs y).length + 1 : Nat) : Int) ≤ 4294967296 := by omega
 simp only [ws_len, hw1, hw2, interp_ift', decide_eq_true c1, decide_eq_true c2, decide_true, if_true, Int.toNat_natCast, interp_call_ret]
 exact h
end Go.Dn.Dec
namespace Go.Dn.Dec
open Go.Proofs
theorem add_step (b_0 b_2 b_5 : Bool) (y x : List Int) (out : List Int) (i : Nat) (T : Nat) (hl : out.length = i) (hi : i ≤ 100000) (R : Option Out)
  (h : rk Tryz.prog pol (Task.at_ 199 0 [false, true, false, true, true, true, true]
   (sv 56 [(1, V.d (D.l b_0 (ints .u32 y))), (5, V.d (D.l false (ints .u32 (out ++ [((T % W : Nat) : Int)])))), (6, V.d (D.i .u64 ((T / W : Nat) : Int))), (20, V.d (D.l b_5 (ints .u32 x))), (21, V.d (D.i .i64 (x.length : Int))), (22, V.d (D.i .i64 ((i + 1 : Nat) : Int)))]) [(5, 1)] []) = R) :
  rk Tryz.prog pol (Task.at_ 199 0 [true, true, true, false, false, true, true, false, false, true, false, true, true, true, true]
   (sv 56 [(1, V.d (D.l b_0 (ints .u32 y))), (5, V.d (D.l b_2 (ints .u32 out))), (6, V.d (D.i .u64 (T : Int))), (20, V.d (D.l b_5 (ints .u32 x))), (21, V.d (D.i .i64 (x.length : Int))), (22, V.d (D.i .i64 (i : Int)))]) [(5, 1)] []) = R := by
 rw [f50_at62255]
 have hw2 : IntKind.u32.wrap (T : Int) = ((T % W : Nat) : Int) := by rw [u32_wrap, mod_W]
 have hw3 : (T : Int).fdiv 4294967296 = ((T / W : Nat) : Int) := fdiv_W _
 have hw : IntKind.i64.wrap ((i : Int) + 1) = ((i + 1 : Nat) : Int) := by rw [wrap_i64] <;> omega
 have hle : out.length + 1 ≤ 4294967296 := by omega
 simp only [head_ints, interp_ift', if_true, Bool.or_true, len_ints, decide_eq_true hle, hw2, hw3, hw, ints_snoc, Bool.and_false, interp_call_ret]
 exact h
theorem add_loop (b_0 b_5 : Bool) (y x : List Int) (hx : U32 x) (hy : U32 y) (hb : x.length ≤ 100000) (hyx : y.length ≤ x.length) : ∀ (d i : Nat) (b1 : Bool) (out : List Int) (c : Nat), i + d = x.length → U32 out → out.length = i → c < 4294967296 →
  rk Tryz.prog pol (Task.at_ 199 0 [false, true, false, true, true, true, true]
   (sv 56 [(1, V.d (D.l b_0 (ints .u32 y))), (5, V.d (D.l b1 (ints .u32 out))), (6, V.d (D.i .u64 (c : Int))), (20, V.d (D.l b_5 (ints .u32 x))), (21, V.d (D.i .i64 (x.length : Int))), (22, V.d (D.i .i64 (i : Int)))]) [(5, 1)] []) =
  some (.d (nl (valL out + W ^ i * (c + valL (x.drop i) + valL (y.drop i)))), []) := by
 intro d
 induction d with
 | zero =>
  intro i b1 out c hi hu hl hc
  rw [f50_at175]
  have h3 : ¬ ((i : Int) < (x.length : Int)) := by omega
  have hd : x.drop i = [] := List.drop_eq_nil_of_le (by omega)
  have hd2 : y.drop i = [] := List.drop_eq_nil_of_le (by omega)
  have hw : IntKind.u32.wrap (c : Int) = (c : Int) := by rw [u32_wrap, mod_32 hc]
  have hcut := cut_run false (out ++ [(c : Int)]) (hu.snoc hc) (by simp; omega)
  have hv : valL (out ++ [(c : Int)]) = valL out + W ^ i * (c + valL (x.drop i) + valL (y.drop i)) := by
   rw [val_append, hl, hd, hd2]; simp [valL]
  rw [hv] at hcut
  have hlen : i ≤ 4294967295 := by omega
  simp [h3, hw, hl, hlen, ints_snoc, hcut, nl]
 | succ d ih =>
  intro i b1 out c hi hu hl hc
  have hxi : i < x.length := by omega
  have gx := List.getElem?_eq_getElem hxi
  obtain ⟨u, eu, hu32⟩ := hx.get hxi
  have h3 : ((i : Int) < (x.length : Int)) := by omega
  have hw1 : IntKind.u64.wrap ((c : Int) + IntKind.u64.wrap (u : Int)) = ((c + u : Nat) : Int) := by
   rw [u64_wrap (u : Int), mod_64 (by omega), ← Int.natCast_add, u64_wrap, mod_64 (by omega)]
  have key : ∀ T : Nat, T < 18446744073709551616 → (W ^ i * (T + W * (valL (x.drop (i + 1)) + valL (y.drop (i + 1)))) = W ^ i * (c + valL (x.drop i) + valL (y.drop i))) →
    rk Tryz.prog pol (Task.at_ 199 0 [true, true, true, false, false, true, true, false, false, true, false, true, true, true, true]
   (sv 56 [(1, V.d (D.l b_0 (ints .u32 y))), (5, V.d (D.l b1 (ints .u32 out))), (6, V.d (D.i .u64 (T : Int))), (20, V.d (D.l b_5 (ints .u32 x))), (21, V.d (D.i .i64 (x.length : Int))), (22, V.d (D.i .i64 (i : Int)))]) [(5, 1)] []) =
   some (.d (nl (valL out + W ^ i * (c + valL (x.drop i) + valL (y.drop i)))), []) := by
   intro T hT hv
   have hmod : T % W < 4294967296 := Nat.mod_lt _ W_pos
   have hdiv : T / W < 4294967296 := by unfold W; omega
   refine add_step b_0 b1 b_5 y x out i T hl (by omega) _ ?_
   rw [ih (i + 1) false (out ++ [((T % W : Nat) : Int)]) (T / W) (by omega) (hu.snoc hmod) (by simp [hl]) hdiv]
   congr 4
   rw [val_append, hl, ← hv]
   simp only [valL, Int.toNat_natCast, Nat.mul_zero, Nat.add_zero]
   rw [Nat.pow_succ, Nat.add_assoc, Nat.mul_assoc, ← Nat.mul_add]
   congr 2
   have := Nat.mod_add_div T W
   rw [Nat.add_assoc, Nat.mul_add, ← Nat.add_assoc, this]
  rw [f50_at175]
  by_cases hyi : i < y.length
  ·have gy := List.getElem?_eq_getElem hyi
   obtain ⟨v, ev, hv32⟩ := hy.get hyi
   have h4 : ((i : Int) < (y.length : Int)) := by omega
   have hw2 : IntKind.u64.wrap (((c + u : Nat) : Int) + IntKind.u64.wrap (v : Int)) = ((c + u + v : Nat) : Int) := by
    rw [u64_wrap (v : Int), mod_64 (by omega), ← Int.natCast_add, u64_wrap, mod_64 (by omega)]
   have hk := key (c + u + v) (by omega) (by
    rw [drop_val hxi, drop_val hyi, eu, ev]
    simp only [Int.toNat_natCast]
    congr 1
    rw [Nat.mul_add]; omega)
   generalize (c + u + v : Nat) = T at hw2 hk
   generalize (c + u : Nat) = T0 at hw1 hw2
   simp only [interp_brB, h3, h4, decide_true, if_true, interp_ob', interp_ift', interp_asI, getI_nat, get_ints, gx, gy, eu, ev, Option.map_some, Option.bind_some, width_i, cells_i, beq_self_eq_true, len_ints, hw1, hw2, Int.toNat_natCast, List.getElem?_cons_zero, interp_call_ret]
   exact hk
  ·have h4 : ¬ ((i : Int) < (y.length : Int)) := by omega
   have hk := key (c + u) (by omega) (by
    rw [drop_val hxi, eu, List.drop_eq_nil_of_le (show y.length ≤ i by omega), List.drop_eq_nil_of_le (show y.length ≤ i + 1 by omega)]
    simp only [Int.toNat_natCast, valL, Nat.add_zero]
    congr 1; omega)
   generalize (c + u : Nat) = T at hw1 hk
   simp only [interp_brB, h3, h4, decide_true, decide_false, Bool.false_eq_true, if_true, if_false, interp_ob', interp_ift', interp_asI, getI_nat, get_ints, gx, eu, Option.map_some, Option.bind_some, width_i, cells_i, beq_self_eq_true, len_ints, hw1, Int.toNat_natCast, List.getElem?_cons_zero, interp_call_ret]
   exact hk
theorem add_ord (b c : Bool) (x y : Nat) (hx : Fits x) (hyx : (limbs y).length ≤ (limbs x).length) :
  rk Tryz.prog pol (Task.at_ 199 0 [true, true] (sv 56 [(0, V.d (D.l b (ws x))), (1, V.d (D.l c (ws y)))]) [] []) = some (.d (.l (nb (x + y)) (ws (x + y))), []) := by
 rw [f50_at7]
 have lx := hx.len
 have h := add_loop c b (limbs y) (limbs x) (limbs_u32 x) (limbs_u32 y) (by omega) hyx (limbs x).length 0 false [] 0 (by omega) U32.nil rfl (by decide)
 simp only [valL, Nat.pow_zero, Nat.one_mul, Nat.zero_add, List.drop_zero, val_limbs, ints_nil, Int.natCast_zero] at h
 have hw : IntKind.i64.wrap (((limbs x).length : Int) + 1) = ((limbs x).length : Int) + 1 := by rw [wrap_i64] <;> omega
 have h1 : (0 : Int) ≤ ((limbs x).length : Int) + 1 := by omega
 have h2 : ((limbs x).length : Int) + 1 ≤ 4294967296 := by omega
 simp only [ws_len, hw, interp_ift', decide_eq_true h1, decide_eq_true h2, if_true, interp_call_ret]
 exact h
theorem add_ws (b c : Bool) (x y : Nat) (hx : Fits x) (hy : Fits y) : rk Tryz.prog pol (Task.call 199 [V.d (D.l b (ws x)), V.d (D.l c (ws y))] []) = some (.d (.l (nb (x + y)) (ws (x + y))), []) := by
 rw [f50]
 by_cases h : (limbs x).length < (limbs y).length
 ·have hi : ((limbs x).length : Int) < ((limbs y).length : Int) := by omega
  have := add_ord c b y x hy (by omega)
  rw [Nat.add_comm] at this
  simp only [ws_len, interp_brB, decide_eq_true hi, if_true, interp_call_ret, this]
 ·have hi : ¬ ((limbs x).length : Int) < ((limbs y).length : Int) := by omega
  have := add_ord b c x y hx (by omega)
  simp only [ws_len, interp_brB, decide_eq_false hi, Bool.false_eq_true, if_false, interp_call_ret, this]
end Go.Dn.Dec
namespace Go.Dn.Dec
open Go.Proofs
theorem cut_ws (b : Bool) (x : Nat) (hx : Fits x) : rk Tryz.prog pol (Task.call 162 [V.d (D.l b (ws x))] []) = some (.d (.l (nb x) (ws x)), []) := by
 have := cut_run b (limbs x) (limbs_u32 x) (by have := hx.len; omega)
 rw [val_limbs] at this; exact this
theorem or_nat {a b : Nat} (ha : a < 18446744073709551616) (hb : b < 18446744073709551616) : ((BitVec.ofInt 64 (a : Int) ||| BitVec.ofInt 64 (b : Int)).toNat) = a ||| b := by
 rw [BitVec.toNat_or, BitVec.ofInt_natCast, BitVec.ofInt_natCast, BitVec.toNat_ofNat, BitVec.toNat_ofNat, Nat.mod_eq_of_lt (by simpa using ha), Nat.mod_eq_of_lt (by simpa using hb)]
theorem or_add {c a k : Nat} (h : c < 2 ^ k) : c ||| (a * 2 ^ k) = c + a * 2 ^ k := by
 rw [Nat.or_comm, Nat.mul_comm a, ← Nat.two_pow_add_eq_or_of_lt h, Nat.add_comm]
theorem tmod_nat (n m : Nat) : (n : Int).tmod (m : Int) = ((n % m : Nat) : Int) := (Int.ofNat_tmod n m).symm
theorem tdiv_nat (n m : Nat) : (n : Int).tdiv (m : Int) = ((n / m : Nat) : Int) := (Int.ofNat_tdiv n m).symm
theorem shl_loop (n : Nat) (b : Bool) (x : List Int) (hx : U32 x) (hb : x.length ≤ 100000) (q : Nat) (hq : q ≤ 500000) : ∀ (d i : Nat) (b1 : Bool) (out : List Int) (c : Nat), i + d = x.length → U32 out → out.length = q + i → c < 2 ^ (n % 32) →
  rk Tryz.prog pol (Task.at_ 161 0 [false, true, false, true, true, true, true, true]
   (sv 65 [(1, V.d (D.i .i64 (n : Int))), (5, V.d (D.l b1 (ints .u32 out))), (6, V.d (D.i .u64 (c : Int))), (38, V.d (D.l b (ints .u32 x))), (39, V.d (D.i .i64 (x.length : Int))), (40, V.d (D.i .i64 (i : Int)))]) [(5, 1)] []) =
  some (.d (nl (valL out + W ^ (q + i) * (c + valL (x.drop i) * 2 ^ (n % 32)))), []) := by
 have hk : n % 32 < 32 := Nat.mod_lt _ (by decide)
 have h2k : 2 ^ (n % 32) ≤ 2147483648 := Nat.le_trans (Nat.pow_le_pow_right (by decide) (show n % 32 ≤ 31 by omega)) (by decide)
 have h2p : 0 < 2 ^ (n % 32) := Nat.pow_pos (by decide)
 intro d
 induction d with
 | zero =>
  intro i b1 out c hi hu hl hc
  rw [f53_at351]
  have h3 : ¬ ((i : Int) < (x.length : Int)) := by omega
  have hd : x.drop i = [] := List.drop_eq_nil_of_le (by omega)
  have hc' : c < 4294967296 := by omega
  have hw : IntKind.u32.wrap (c : Int) = (c : Int) := by rw [u32_wrap, mod_32 hc']
  have hcut := cut_run false (out ++ [(c : Int)]) (hu.snoc hc') (by simp; omega)
  have hv : valL (out ++ [(c : Int)]) = valL out + W ^ (q + i) * (c + valL (x.drop i) * 2 ^ (n % 32)) := by
   rw [val_append, hl, hd]; simp [valL]
  rw [hv] at hcut
  have hlen : q + i + 1 ≤ 4294967296 := by omega
  simp only [interp_brB, h3, decide_false, Bool.false_eq_true, if_false, interp_ift', head_ints, if_true, Bool.or_true, len_ints, hl, decide_eq_true hlen, hw, ints_snoc, Bool.and_false, interp_call', hcut, Option.bind_some, List.isEmpty_nil]
  simp [nl]
 | succ d ih =>
  intro i b1 out c hi hu hl hc
  rw [f53_at351]
  have hxi : i < x.length := by omega
  have gx := List.getElem?_eq_getElem hxi
  obtain ⟨a, ea, ha32⟩ := hx.get hxi
  have h3 : ((i : Int) < (x.length : Int)) := by omega
  have hle : q + i + 1 ≤ 4294967296 := by omega
  have hak : a * 2 ^ (n % 32) ≤ 4294967295 * 2147483648 := Nat.mul_le_mul (by omega) h2k
  have hm : (n : Int).tmod 32 = ((n % 32 : Nat) : Int) := tmod_nat n 32
  have hmin : min (n % 32) 64 = n % 32 := Nat.min_eq_left (by omega)
  have hw0 : IntKind.u64.wrap (IntKind.u64.wrap (a : Int) * 2 ^ (n % 32)) = ((a * 2 ^ (n % 32) : Nat) : Int) := by
   rw [u64_wrap (a : Int), mod_64 (by omega)]
   have : (a : Int) * 2 ^ (n % 32) = ((a * 2 ^ (n % 32) : Nat) : Int) := by simp
   rw [this, u64_wrap, mod_64 (by omega)]
  have hor : ((BitVec.ofInt IntKind.u64.bits (c : Int) ||| BitVec.ofInt IntKind.u64.bits ((a * 2 ^ (n % 32) : Nat) : Int)).toNat) = c + a * 2 ^ (n % 32) := by
   have := or_nat (a := c) (b := a * 2 ^ (n % 32)) (by omega) (by omega)
   rw [or_add hc] at this
   exact this
  have hw1 : IntKind.u64.wrap ((c + a * 2 ^ (n % 32) : Nat) : Int) = ((c + a * 2 ^ (n % 32) : Nat) : Int) := by rw [u64_wrap, mod_64 (by omega)]
  have hw2 : IntKind.u32.wrap ((c + a * 2 ^ (n % 32) : Nat) : Int) = (((c + a * 2 ^ (n % 32)) % W : Nat) : Int) := by rw [u32_wrap, mod_W]
  have hw3 : ((c + a * 2 ^ (n % 32) : Nat) : Int).fdiv 4294967296 = (((c + a * 2 ^ (n % 32)) / W : Nat) : Int) := fdiv_W _
  have hw : IntKind.i64.wrap ((i : Int) + 1) = ((i + 1 : Nat) : Int) := by rw [wrap_i64] <;> omega
  have hmod : (c + a * 2 ^ (n % 32)) % W < 4294967296 := Nat.mod_lt _ W_pos
  have hdiv : (c + a * 2 ^ (n % 32)) / W < 2 ^ (n % 32) := by
   apply Nat.div_lt_of_lt_mul
   have : a * 2 ^ (n % 32) ≤ 4294967295 * 2 ^ (n % 32) := Nat.mul_le_mul_right _ (by omega)
   unfold W; omega
  have ih' := ih (i + 1) false (out ++ [(((c + a * 2 ^ (n % 32)) % W : Nat) : Int)]) ((c + a * 2 ^ (n % 32)) / W) (by omega) (hu.snoc hmod) (by simp [hl]; omega) hdiv
  have hval : valL (out ++ [(((c + a * 2 ^ (n % 32)) % W : Nat) : Int)]) + W ^ (q + (i + 1)) * ((c + a * 2 ^ (n % 32)) / W + valL (x.drop (i + 1)) * 2 ^ (n % 32)) = valL out + W ^ (q + i) * (c + valL (x.drop i) * 2 ^ (n % 32)) := by
   rw [val_append, hl, drop_val hxi, ea]
   simp only [valL, Int.toNat_natCast, Nat.mul_zero, Nat.add_zero]
   rw [show q + (i + 1) = (q + i) + 1 from rfl, Nat.pow_succ, Nat.add_assoc, Nat.mul_assoc, ← Nat.mul_add]
   congr 2
   have := Nat.mod_add_div (c + a * 2 ^ (n % 32)) W
   rw [Nat.mul_add, ← Nat.add_assoc, this, Nat.add_mul, Nat.mul_assoc, Nat.add_assoc]
  rw [hval, ← ints_snoc] at ih'
  have hp : (0 : Int) ≤ ((n % 32 : Nat) : Int) := by omega
  generalize (c + a * 2 ^ (n % 32) : Nat) = T at hor hw1 hw2 hw3 ih'
  simp only [interp_brB, h3, decide_true, if_true, interp_ob', interp_ift', interp_asI, getI_nat, get_ints, gx, ea, Option.map_some, Option.bind_some, width_i, cells_i, beq_self_eq_true, head_ints, Bool.or_true, len_ints, hl, decide_eq_true hle, Bool.and_false, hm, decide_eq_true hp, Int.toNat_natCast, hmin, hw0, hor, hw1, hw2, hw3, hw, List.getElem?_cons_zero, interp_call_ret]
  exact ih'
theorem W_pow (q k : Nat) : W ^ q * 2 ^ k = 2 ^ (32 * q + k) := by
 have : W = 2 ^ 32 := by decide
 rw [this, ← Nat.pow_mul, ← Nat.pow_add]
theorem ints_replicate (n : Nat) : List.replicate n (D.i .u32 0) = ints .u32 (List.replicate n 0) := by simp [ints]
theorem shl_ws (b : Bool) (x n : Nat) (hx : Fits x) (hn : n ≤ 1000000) : rk Tryz.prog pol (Task.call 161 [V.d (D.l b (ws x)), V.d (D.i .i64 (n : Int))] []) = some (.d (.l (nb (x * 2 ^ n)) (ws (x * 2 ^ n))), []) := by
 rw [f53]
 have lx := hx.len
 have hcut := cut_ws b x hx
 have h1 : ¬ ((n : Int) < IntKind.i64.wrap (-32 * IntKind.i64.wrap (((limbs x).length : Int) + 1))) := by
  rw [wrap_i64 (n := ((limbs x).length : Int) + 1) (by omega) (by omega), wrap_i64 (by omega) (by omega)]; omega
 have h2 : ¬ ((n : Int) < 0) := by omega
 by_cases h0 : x = 0
 ·subst h0
  have h3 : (limbs 0).length = 0 := by rw [limbs_zero]; rfl
  rw [Nat.zero_mul]
  simp only [interp_call', hcut, Option.bind_some, List.isEmpty_nil, interp_ift', if_true, asD_d, asL_l, ws_len, interp_brB, decide_eq_false h2, Bool.false_eq_true, if_false, h3, Int.natCast_zero, beq_self_eq_true, interp_ret, ite_self]
  rw [nb_zero, ws_zero]
 ·have h3 : (limbs x).length ≠ 0 := fun e => h0 ((limbs_nil_iff x).1 (List.length_eq_zero_iff.1 e))
  have h4 : (((limbs x).length : Int) == 0) = false := beq_eq_false_iff_ne.2 (by omega)
  have hd : (n : Int).tdiv 32 = ((n / 32 : Nat) : Int) := tdiv_nat n 32
  have hq : n / 32 ≤ 500000 := by clear h1; omega
  have hw1 : IntKind.i64.wrap ((n / 32 : Nat) : Int) = ((n / 32 : Nat) : Int) := by rw [wrap_i64] <;> omega
  have hw2 : IntKind.i64.wrap (((n / 32 : Nat) : Int) + ((limbs x).length : Int)) = ((n / 32 : Nat) : Int) + ((limbs x).length : Int) := by rw [wrap_i64] <;> omega
  have hw3 : IntKind.i64.wrap (((n / 32 : Nat) : Int) + ((limbs x).length : Int) + 1) = ((n / 32 : Nat) : Int) + ((limbs x).length : Int) + 1 := by rw [wrap_i64] <;> omega
  have c1 : (0 : Int) ≤ ((n / 32 : Nat) : Int) := by omega
  have c2 : ((n / 32 : Nat) : Int) ≤ ((n / 32 : Nat) : Int) + ((limbs x).length : Int) + 1 := by omega
  have c3 : ((n / 32 : Nat) : Int) + ((limbs x).length : Int) + 1 ≤ 4294967296 := by omega
  have h := shl_loop n (nb x) (limbs x) (limbs_u32 x) (by omega) (n / 32) hq (limbs x).length 0 false (List.replicate (n / 32) 0) 0 (by omega) (fun z hz => by rw [List.mem_replicate] at hz; omega) (by simp) (Nat.pow_pos (by decide))
  rw [val_replicate, Nat.zero_add, Nat.zero_add, Nat.add_zero, List.drop_zero, val_limbs, Nat.mul_left_comm, W_pow, Nat.div_add_mod, ← ints_replicate, nl_ws, Int.natCast_zero] at h
  simp only [interp_call', hcut, Option.bind_some, List.isEmpty_nil, interp_ift', if_true, asD_d, asL_l, ws_len, interp_brB, decide_eq_false h1, decide_eq_false h2, Bool.false_eq_true, if_false, h4, hd, hw1, hw2, hw3, decide_eq_true c1, decide_eq_true c2, decide_eq_true c3, Int.toNat_natCast]
  rw [show ws x = ints .u32 (limbs x) from rfl]
  rw [h]; rfl
end Go.Dn.Dec
namespace Go.Dn.Dec
open Go.Proofs
theorem ext_call {k : Nat} {g : List V → List Ob → Option Out} (h : pol.ext k = some g) (args : List V) (S : List Ob) : rk Tryz.prog pol (Task.call k args S) = g args S := by
 rw [rk_eq]
 simp only [stepK, h, interp_ob']
 cases g args S <;> simp
theorem len32_call (n : Nat) (h : n < 4294967296) : rk Tryz.prog pol (Task.call 163 [V.d (D.i .u32 (n : Int))] []) = some (.d (.i .i64 (blen n : Nat)), []) := by
 rw [ext_call (g := len32Ext) rfl]
 have h1 : (0 : Int) ≤ (n : Int) ∧ (n : Int) < 4294967296 := by omega
 simp only [len32Ext, if_pos h1, Int.toNat_natCast]
theorem lt_blen (n : Nat) : n < 2 ^ blen n := by
 unfold blen
 split
 ·subst n; decide
 ·exact Nat.lt_log2_self
theorem blen_le (n : Nat) (h : n ≠ 0) : 2 ^ (blen n - 1) ≤ n := by
 unfold blen
 rw [if_neg h, Nat.add_sub_cancel]
 exact Nat.log2_self_le h
theorem blen_pos {n : Nat} (h : n ≠ 0) : 0 < blen n := by unfold blen; rw [if_neg h]; omega
theorem blen_le_iff (n k : Nat) : blen n ≤ k ↔ n < 2 ^ k := by
 constructor
 ·intro h; exact Nat.lt_of_lt_of_le (lt_blen n) (Nat.pow_le_pow_right (by decide) h)
 ·intro h
  by_cases h0 : n = 0
  ·subst h0; simp [blen]
  ·have h1 := blen_le n h0
   have h2 := blen_pos h0
   have : 2 ^ (blen n - 1) < 2 ^ k := Nat.lt_of_le_of_lt h1 h
   have := (Nat.pow_lt_pow_iff_right (show 1 < 2 by decide)).1 this
   omega
theorem blen_eq {n k : Nat} (h1 : 2 ^ k ≤ n) (h2 : n < 2 ^ (k + 1)) : blen n = k + 1 := by
 have a := (blen_le_iff n (k + 1)).2 h2
 have b : ¬ blen n ≤ k := fun h => by have := (blen_le_iff n k).1 h; omega
 omega
theorem limbs_last (n : Nat) (h : n ≠ 0) : ∃ m z : Nat, (limbs n).length = m + 1 ∧ (limbs n)[m]? = some (z : Int) ∧ z ≠ 0 ∧ z < W ∧ n / W ^ m = z := by
  induction n using Nat.strongRecOn with
  | ind n ih =>
    rw [limbs_pos h]
    by_cases h2 : n / W = 0
    · rw [h2, limbs_zero]
      have h3 : n < W := by rcases Nat.div_eq_zero_iff.1 h2 with h | h; · exact absurd h (by decide)
                            · exact h
      refine ⟨0, n, rfl, ?_, h, h3, by simp⟩
      simp [Nat.mod_eq_of_lt h3]
    · obtain ⟨m, z, a, b, c, d, e⟩ := ih (n / W) (Nat.div_lt_self (by omega) (by decide)) h2
      refine ⟨m + 1, z, by rw [List.length_cons, a], by rw [List.getElem?_cons_succ, b], c, d, ?_⟩
      rw [Nat.pow_succ, Nat.mul_comm, ← Nat.div_div_eq_div_mul, e]
theorem W_two : W = 2 ^ 32 := by decide
theorem W_pow' (m : Nat) : W ^ m = 2 ^ (32 * m) := by rw [W_two, ← Nat.pow_mul]
theorem bits_ws (b : Bool) (x : Nat) (hx : Fits x) : rk Tryz.prog pol (Task.call 113 [V.d (D.l b (ws x))] []) = some (.d (.i .i64 (blen x : Nat)), []) := by
 rw [f34]
 have lx := hx.len
 have hcut := cut_ws b x hx
 by_cases h0 : x = 0
 ·subst h0
  simp [hcut, limbs_zero, blen]
 ·obtain ⟨m, z, a, g, c, d, e⟩ := limbs_last x h0
  have h4 : ((((limbs x).length : Nat) : Int) == 0) = false := beq_eq_false_iff_ne.2 (by omega)
  have hw : IntKind.i64.wrap (((limbs x).length : Int) - 1) = (m : Int) := by rw [wrap_i64] <;> omega
  have hz := len32_call z d
  have hlen : blen x = 32 * m + blen z := by
   have hb := blen_pos c
   have h1 := blen_le z c
   have h2 := lt_blen z
   have e1 : 2 ^ (32 * m + (blen z - 1)) ≤ x := by
    rw [Nat.pow_add, ← W_pow']
    have : W ^ m * z ≤ x := by rw [← e]; exact Nat.mul_div_le x (W ^ m)
    exact Nat.le_trans (Nat.mul_le_mul_left _ h1) this
   have e2 : x < 2 ^ (32 * m + (blen z - 1) + 1) := by
    rw [show 32 * m + (blen z - 1) + 1 = 32 * m + blen z by omega, Nat.pow_add, ← W_pow']
    have : x < W ^ m * (z + 1) := by
     rw [← e]; exact Nat.lt_mul_div_succ x (Nat.pow_pos W_pos)
    exact Nat.lt_of_lt_of_le this (Nat.mul_le_mul_left _ h2)
   rw [blen_eq e1 e2]; omega
  have hbz : blen z ≤ 32 := (blen_le_iff z 32).2 d
  have hw2 : IntKind.i64.wrap (32 * (m : Int)) = 32 * (m : Int) := by rw [wrap_i64] <;> omega
  have hw3 : IntKind.i64.wrap (32 * (m : Int) + (blen z : Int)) = (blen x : Int) := by rw [wrap_i64] <;> omega
  have hg : (ws x)[m]? = some (D.i .u32 (z : Int)) := by rw [ws, get_ints, g]; rfl
  simp only [interp_call', hcut, Option.bind_some, List.isEmpty_nil, interp_ift', if_true, asD_d, asL_l, ws_len, interp_brB, h4, Bool.false_eq_true, if_false, hw, getI_nat, hg, interp_ob', width_i, beq_self_eq_true, Int.toNat_natCast, cells_i, List.getElem?_cons_zero, interp_asI, hz, hw2, hw3, interp_ret]
def cmpN (x y : Nat) : Int := if x < y then -1 else if y < x then 1 else 0
theorem take_val (a : List Int) (i : Nat) (h : i < a.length) : valL (a.take (i + 1)) = valL (a.take i) + W ^ i * a[i].toNat := by
 rw [List.take_add_one, List.getElem?_eq_getElem h, val_append, List.length_take, Nat.min_eq_left (by omega)]
 simp [valL]
theorem lex_lt {i p q x y : Nat} (hp : p < W ^ i) (h : x < y) : p + W ^ i * x < q + W ^ i * y := by
 have h1 : W ^ i * (x + 1) ≤ W ^ i * y := Nat.mul_le_mul_left _ h
 rw [Nat.mul_add, Nat.mul_one] at h1
 omega
theorem cmp_loop (b_0 b_2 : Bool) (a c : List Int) (ha : U32 a) (hc : U32 c) (hb : a.length ≤ 100000) (hac : a.length = c.length) : ∀ i : Nat, i ≤ a.length →
  rk Tryz.prog pol (Task.at_ 164 0 [false, true, false, true, true, true] (sv 49 [(0, V.d (D.l b_0 (ints .u32 a))), (1, V.d (D.l b_2 (ints .u32 c))), (5, V.d (D.i .i64 ((i : Int) - 1)))]) [] []) =
   some (.d (.i .i64 (cmpN (valL (a.take i)) (valL (c.take i)))), [])
 | 0, hi => by
  rw [f62_at87]
  simp [cmpN]
 | i + 1, hi => by
  rw [f62_at87]
  have ih := cmp_loop b_0 b_2 a c ha hc hb hac i (by omega)
  have hia : i < a.length := by omega
  have hic : i < c.length := by omega
  obtain ⟨u, eu, hu⟩ := ha.get hia
  obtain ⟨v, ev, hv⟩ := hc.get hic
  have ga : a[i]? = some (u : Int) := by rw [List.getElem?_eq_getElem hia, eu]
  have gc : c[i]? = some (v : Int) := by rw [List.getElem?_eq_getElem hic, ev]
  have pa := val_lt (ha.take i)
  have pc := val_lt (hc.take i)
  rw [List.length_take, Nat.min_eq_left (by omega)] at pa pc
  have e0 : (((i + 1 : Nat) : Int) - 1) = (i : Int) := by omega
  have h0 : (i : Int) ≥ 0 := by omega
  have hw : IntKind.i64.wrap ((i : Int) - 1) = (i : Int) - 1 := by rw [wrap_i64] <;> omega
  rw [e0, take_val a i hia, take_val c i hic, eu, ev]
  simp only [Int.toNat_natCast]
  generalize valL (a.take i) = p at *
  generalize valL (c.take i) = q at *
  rcases Nat.lt_trichotomy u v with h | h | h
  ·have h1 : (u : Int) < (v : Int) := by omega
   have h2 : cmpN (p + W ^ i * u) (q + W ^ i * v) = -1 := by
    unfold cmpN; rw [if_pos (lex_lt pa h)]
   simp [h0, ga, gc, h1, h2]
  ·subst h
   have h2 : cmpN (p + W ^ i * u) (q + W ^ i * u) = cmpN p q := by
    unfold cmpN; congr 1
    ·exact propext (by omega)
    ·congr 1; exact propext (by omega)
   rw [h2]
   simp [h0, ga, gc, hw, ih]
  ·have h1 : ¬ (u : Int) < (v : Int) := by omega
   have h1' : (v : Int) < (u : Int) := by omega
   have h2 : cmpN (p + W ^ i * u) (q + W ^ i * v) = 1 := by
    have := lex_lt (q := p) pc h
    unfold cmpN; rw [if_neg (by omega), if_pos this]
   simp [h0, ga, gc, h1, h1', h2]
theorem limbs_lt_len (n : Nat) : n < W ^ (limbs n).length := by
 have := val_lt (limbs_u32 n)
 rwa [val_limbs] at this
theorem limbs_le_len (n : Nat) (h : n ≠ 0) : W ^ ((limbs n).length - 1) ≤ n := by
 obtain ⟨m, z, a, g, c, d, e⟩ := limbs_last n h
 rw [a, Nat.add_sub_cancel]
 have : W ^ m * z ≤ n := by rw [← e]; exact Nat.mul_div_le n (W ^ m)
 exact Nat.le_trans (Nat.le_mul_of_pos_right _ (by omega)) this
theorem len_lt {x y : Nat} (h : (limbs x).length < (limbs y).length) : x < y := by
 have h1 := limbs_lt_len x
 have hy : y ≠ 0 := fun e => by rw [e, limbs_zero] at h; simp at h
 have h2 := limbs_le_len y hy
 have : W ^ (limbs x).length ≤ W ^ ((limbs y).length - 1) := Nat.pow_le_pow_right W_pos (by omega)
 omega
theorem cmp_ws (b c : Bool) (x y : Nat) (hx : Fits x) (hy : Fits y) : rk Tryz.prog pol (Task.call 164 [V.d (D.l b (ws x)), V.d (D.l c (ws y))] []) = some (.d (.i .i64 (cmpN x y)), []) := by
 rw [f62]
 have lx := hx.len
 have ly := hy.len
 have c1 := cut_ws b x hx
 have c2 := cut_ws c y hy
 simp only [interp_call', c1, c2, Option.bind_some, List.isEmpty_nil, interp_ift', if_true, asD_d, asL_l, ws_len, interp_brB, decide_eq_true_eq]
 by_cases h1 : (limbs x).length < (limbs y).length
 ·have := len_lt h1
  rw [if_pos (by omega), cmpN, if_pos this]; rfl
 ·by_cases h2 : (limbs y).length < (limbs x).length
  ·have := len_lt h2
   rw [if_neg (by omega), if_pos (by omega), cmpN, if_neg (by omega), if_pos this]; rfl
  ·have h3 : (limbs x).length = (limbs y).length := by omega
   have := cmp_loop (nb x) (nb y) (limbs x) (limbs y) (limbs_u32 x) (limbs_u32 y) (by omega) h3 (limbs x).length (Nat.le_refl _)
   rw [List.take_length, h3, List.take_length, val_limbs, val_limbs] at this
   have hw : IntKind.i64.wrap (((limbs y).length : Int) - 1) = ((limbs y).length : Int) - 1 := by rw [wrap_i64] <;> omega
   rw [if_neg (by omega), if_neg (by omega), h3, hw, ws, ws, this]
   rfl
theorem low_ws (b : Bool) (x : Nat) (hx : Fits x) : rk Tryz.prog pol (Task.call 168 [V.d (D.l b (ws x))] []) = some (.d (.i .u64 ((x % 18446744073709551616 : Nat) : Int)), []) := by
  have step : ∀ n_2 : Int, ∀ n_3 : Int, ∀ i : Nat, (i : Int) < n_3 → i ≤ 1 → ∀ u : Nat, (limbs x)[i]? = some (u : Int) → 
     rk Tryz.prog pol (Task.at_ 168 0 [false, true, false, true, true] (sv 23 [(0, V.d (D.l b (ws x))), (3, V.d (D.i IntKind.u64 n_2)), (7, V.d (D.i IntKind.i64 n_3)), (8, V.d (D.i IntKind.i64 (i : Int)))]) [] []) =
     rk Tryz.prog pol (Task.at_ 168 0 [false, true, false, true, true] (sv 23 [(0, V.d (D.l b (ws x))), (3, V.d (D.i IntKind.u64 (IntKind.u64.wrap (((BitVec.ofInt IntKind.u64.bits n_2 ||| BitVec.ofInt IntKind.u64.bits (IntKind.u64.wrap (IntKind.u64.wrap (u : Int) * 2 ^ (32 * i)))).toNat : Nat) : Int)))), (7, V.d (D.i IntKind.i64 n_3)), (8, V.d (D.i IntKind.i64 ((i + 1 : Nat) : Int)))]) [] []) := by
    intro n_2 n_3 i hi hi1 u hu
    rw [f56_at43]
    have hg : (ws x)[i]? = some (D.i .u32 (u : Int)) := by rw [ws, get_ints, hu]; rfl
    have hw : IntKind.i64.wrap (32 * (i : Int)) = ((32 * i : Nat) : Int) := by rw [wrap_i64] <;> omega
    have hw1 : IntKind.i64.wrap ((i : Int) + 1) = ((i + 1 : Nat) : Int) := by rw [wrap_i64] <;> omega
    have hp : (0 : Int) ≤ ((32 * i : Nat) : Int) := by omega
    have hm : min (32 * i) 64 = 32 * i := by omega
    simp only [interp_brB, decide_eq_true hi, if_true, interp_ob', getI_nat, hg, Option.bind_some, width_i, beq_self_eq_true, interp_ift', Int.toNat_natCast, cells_i, List.getElem?_cons_zero, interp_asI, hw, hw1, decide_eq_true hp, hm, interp_call_ret]
  have fin : ∀ n_2 : Int, ∀ n : Int, rk Tryz.prog pol (Task.at_ 168 0 [false, true, false, true, true] (sv 23 [(0, V.d (D.l b (ws x))), (3, V.d (D.i IntKind.u64 n_2)), (7, V.d (D.i IntKind.i64 n)), (8, V.d (D.i IntKind.i64 n))]) [] []) = some (.d (.i .u64 n_2), []) := by
    intro n_2 n
    rw [f56_at43]
    have : ¬ n < n := by omega
    simp [this]
  rw [f56, ws_len, interp_call_ret]
  by_cases h0 : x = 0
  · subst h0
    rw [limbs_zero]
    exact fin 0 0
  · have e0 := limbs_pos h0
    have hm := Nat.mod_lt x W_pos
    have hmd := Nat.mod_add_div x W
    have s1 := step 0
    by_cases h1 : x / W = 0
    · rw [h1, limbs_zero] at e0
      have hx1 : x < W := by rw [h1, Nat.mul_zero] at hmd; omega
      have := s1 1 0 (by decide) (by decide) (x % W) (by rw [e0]; rfl)
      rw [e0]
      refine Eq.trans this ?_
      rw [Nat.mod_eq_of_lt hx1]
      have hW : x < 4294967296 := hx1
      have hv : IntKind.u64.wrap (((BitVec.ofInt IntKind.u64.bits 0 ||| BitVec.ofInt IntKind.u64.bits (IntKind.u64.wrap (IntKind.u64.wrap (x : Int) * 2 ^ (32 * 0)))).toNat : Nat) : Int) = ((x % 18446744073709551616 : Nat) : Int) := by
        rw [Nat.mul_zero, Int.pow_zero, Int.mul_one, u64_wrap (x : Int), mod_64 (by omega), u64_wrap (x : Int), mod_64 (by omega)]
        have := or_nat (a := 0) (b := x) (by decide) (by omega)
        have h2 : (BitVec.ofInt IntKind.u64.bits 0 ||| BitVec.ofInt IntKind.u64.bits (x : Int)).toNat = 0 ||| x := this
        rw [h2, Nat.zero_or, u64_wrap]; omega
      rw [hv]
      exact fin _ 1
    · have e1 := limbs_pos h1
      rw [e1] at e0
      have hm2 := Nat.mod_lt (x / W) W_pos
      have hl : 2 ≤ (limbs x).length := by rw [e0]; simp
      have hmin : (if (2 : Int) < ((limbs x).length : Int) then (2 : Int) else ((limbs x).length : Int)) = 2 := by split <;> omega
      rw [hmin]
      have a1 := s1 2 0 (by decide) (by decide) (x % W) (by rw [e0]; rfl)
      refine Eq.trans a1 ?_
      have a2 := step (IntKind.u64.wrap (((BitVec.ofInt IntKind.u64.bits 0 ||| BitVec.ofInt IntKind.u64.bits (IntKind.u64.wrap (IntKind.u64.wrap ((x % W : Nat) : Int) * 2 ^ (32 * 0)))).toNat : Nat) : Int)) 2 1 (by decide) (by decide) (x / W % W) (by rw [e0]; rfl)
      refine Eq.trans a2 ?_
      have k1 : x % W < 4294967296 := hm
      have k2 : x / W % W < 4294967296 := hm2
      have hv : IntKind.u64.wrap (((BitVec.ofInt IntKind.u64.bits 0 ||| BitVec.ofInt IntKind.u64.bits (IntKind.u64.wrap (IntKind.u64.wrap ((x % W : Nat) : Int) * 2 ^ (32 * 0)))).toNat : Nat) : Int) = ((x % W : Nat) : Int) := by
        rw [Nat.mul_zero, Int.pow_zero, Int.mul_one, u64_wrap ((x % W : Nat) : Int), mod_64 (by omega), u64_wrap ((x % W : Nat) : Int), mod_64 (by omega)]
        have := or_nat (a := 0) (b := x % W) (by decide) (by omega)
        have h2 : (BitVec.ofInt IntKind.u64.bits 0 ||| BitVec.ofInt IntKind.u64.bits ((x % W : Nat) : Int)).toNat = 0 ||| x % W := this
        rw [h2, Nat.zero_or, u64_wrap, mod_64 (by omega)]
      rw [hv]
      have hv2 : IntKind.u64.wrap (((BitVec.ofInt IntKind.u64.bits ((x % W : Nat) : Int) ||| BitVec.ofInt IntKind.u64.bits (IntKind.u64.wrap (IntKind.u64.wrap ((x / W % W : Nat) : Int) * 2 ^ (32 * 1)))).toNat : Nat) : Int) = ((x % 18446744073709551616 : Nat) : Int) := by
        have hmul : x / W % W * 2 ^ 32 < 18446744073709551616 := by
          have : x / W % W * 2 ^ 32 ≤ 4294967295 * 2 ^ 32 := Nat.mul_le_mul_right _ (by omega)
          omega
        have hc : ((x / W % W : Nat) : Int) * 2 ^ (32 * 1) = ((x / W % W * 2 ^ 32 : Nat) : Int) := by simp
        rw [u64_wrap ((x / W % W : Nat) : Int), mod_64 (by omega), hc, u64_wrap (((x / W % W * 2 ^ 32 : Nat) : Int)), mod_64 hmul]
        have := or_nat (a := x % W) (b := x / W % W * 2 ^ 32) (by omega) hmul
        rw [or_add (k := 32) (by exact k1)] at this
        have h2 : (BitVec.ofInt IntKind.u64.bits ((x % W : Nat) : Int) ||| BitVec.ofInt IntKind.u64.bits ((x / W % W * 2 ^ 32 : Nat) : Int)).toNat = x % W + x / W % W * 2 ^ 32 := this
        rw [h2, u64_wrap]
        unfold W at *
        omega
      rw [hv2]
      exact fin _ 2
end Go.Dn.Dec
namespace Go.Dn.Dec
open Go.Proofs
theorem cutA_loop (a : List Int) (ha : U32 a) (hb : a.length ≤ 1000000) : ∀ n : Nat, n ≤ a.length → valL (a.take n) = valL a →
  rk Tryz.prog polA (Task.at_ 162 1 [false, false, true, true] (sv 22 [(0, V.m 0 0 a.length), (3, V.d (D.i .i64 (n : Int)))]) [] [Ob.cells (cellsOf a) []]) = some (.d (nl (valL a)), [Ob.cells (cellsOf a) []])
 | 0, hn, hv => by
  rw [a51_at19]
  have h0 : valL a = 0 := by rw [← hv]; rfl
  have e : nl (valL a) = .l true [] := by rw [h0]; exact nl_of limbs_zero
  have hv0 := view_cells a 0 (by omega)
  simp [a51_at195, e, hv0, ints]
 | n + 1, hn, hv => by
  rw [a51_at19]
  have hx : n < a.length := by omega
  have gx := List.getElem?_eq_getElem hx
  have hp : (0 : Int) < (n : Int) + 1 := by omega
  have hw : IntKind.i64.wrap (n : Int) = (n : Int) := by rw [wrap_i64] <;> omega
  have hl : n + 1 ≤ 4294967296 := by omega
  have hni : (n : Int) < (a.length : Int) := by omega
  by_cases h0 : a[n] = 0
  ·have ih := cutA_loop a ha hb n (by omega) (by rw [← hv]; exact (val_take_zero a n (by rw [gx, h0])).symm)
   simp [hp, hw, hni, cellsOf_get, gx, h0, a51_at195, ih]
  ·have e : nl (valL a) = .l (a.take (n + 1)).isEmpty (ints .u32 (a.take (n + 1))) := by rw [← hv]; exact nl_of (limbs_take ha hx h0)
   have hle : (n : Int) + 1 ≤ (a.length : Int) := by omega
   have hp2 : (0 : Int) ≤ (n : Int) + 1 := by omega
   have ht : ((n : Int) + 1).toNat = n + 1 := by omega
   have hl2 : n + 1 ≤ a.length := by omega
   have hv1 := view_cells a (n + 1) hl2
   simp [hp, hw, hni, cellsOf_get, gx, h0, a51_at195, hle, hp2, ht, hv1, hl, e, isEmpty_ints, hl2]
theorem cutA_run (a : List Int) (ha : U32 a) (hb : a.length ≤ 1000000) : rk Tryz.prog polA (Task.call 162 [V.m 0 0 a.length] [Ob.cells (cellsOf a) []]) = some (.d (nl (valL a)), [Ob.cells (cellsOf a) []]) := by
 rw [a51]
 simp [cutA_loop a ha hb a.length (Nat.le_refl _) (by rw [List.take_length])]
theorem view_cells1 (a : List Int) (o : Ob) (n : Nat) (h : n ≤ a.length) : o_tail [Ob.cells (cellsOf a) [], o] 1 (V.m 1 0 n) = some (ints .u32 (a.take n)) := by
 simp only [o_tail, view, oget, List.length_cons, List.length_nil, Nat.zero_add, if_true]
 rw [if_pos (by rw [cellsOf_len]; omega)]
 simp only [List.drop_zero, cellsOf, ← List.map_take, take_ints, unDs_map]
theorem cutP_loop (a : List Int) (cs : List V) (ha : U32 a) (hb : a.length ≤ 1000000) : ∀ n : Nat, n ≤ a.length → valL (a.take n) = valL a →
  rk Tryz.prog polA (Task.at_ 162 2 [false, false, true, true] (sv 22 [(0, V.m 1 0 a.length), (3, V.d (D.i .i64 (n : Int)))]) [] [Ob.cells (cellsOf a) [], Ob.cells cs []]) = some (.d (nl (valL a)), [Ob.cells (cellsOf a) [], Ob.cells cs []])
 | 0, hn, hv => by
  rw [a51_at19_2]
  have h0 : valL a = 0 := by rw [← hv]; rfl
  have e : nl (valL a) = .l true [] := by rw [h0]; exact nl_of limbs_zero
  have hv0 := view_cells1 a (Ob.cells cs []) 0 (by omega)
  simp [a51_at195_1, e, hv0, ints]
 | n + 1, hn, hv => by
  rw [a51_at19_2]
  have hx : n < a.length := by omega
  have gx := List.getElem?_eq_getElem hx
  have hp : (0 : Int) < (n : Int) + 1 := by omega
  have hw : IntKind.i64.wrap (n : Int) = (n : Int) := by rw [wrap_i64] <;> omega
  have hl : n + 1 ≤ 4294967296 := by omega
  have hni : (n : Int) < (a.length : Int) := by omega
  by_cases h0 : a[n] = 0
  ·have ih := cutP_loop a cs ha hb n (by omega) (by rw [← hv]; exact (val_take_zero a n (by rw [gx, h0])).symm)
   simp [hp, hw, hni, cellsOf_get, gx, h0, a51_at195_1, ih]
  ·have e : nl (valL a) = .l (a.take (n + 1)).isEmpty (ints .u32 (a.take (n + 1))) := by rw [← hv]; exact nl_of (limbs_take ha hx h0)
   have hle : (n : Int) + 1 ≤ (a.length : Int) := by omega
   have hp2 : (0 : Int) ≤ (n : Int) + 1 := by omega
   have ht : ((n : Int) + 1).toNat = n + 1 := by omega
   have hl2 : n + 1 ≤ a.length := by omega
   have hv1 := view_cells1 a (Ob.cells cs []) (n + 1) hl2
   simp [hp, hw, hni, cellsOf_get, gx, h0, a51_at195_1, hle, hp2, ht, hv1, hl, e, isEmpty_ints, hl2]
theorem cutP_run (a : List Int) (cs : List V) (ha : U32 a) (hb : a.length ≤ 1000000) : rk Tryz.prog polA (Task.call 162 [V.m 1 0 a.length] [Ob.cells (cellsOf a) [], Ob.cells cs []]) = some (.d (nl (valL a)), [Ob.cells (cellsOf a) [], Ob.cells cs []]) := by
 rw [a51p]
 simp [cutP_loop a cs ha hb a.length (Nat.le_refl _) (by rw [List.take_length])]
theorem cmpA_loop (b_0 b_2 : Bool) (cs ds : List V) (a c : List Int) (ha : U32 a) (hc : U32 c) (hb : a.length ≤ 100000) (hac : a.length = c.length) : ∀ i : Nat, i ≤ a.length →
  rk Tryz.prog polA (Task.at_ 164 2 [false, true, false, true, true, true] (sv 49 [(0, V.d (D.l b_0 (ints .u32 a))), (1, V.d (D.l b_2 (ints .u32 c))), (5, V.d (D.i .i64 ((i : Int) - 1)))]) [] [Ob.cells ds [], Ob.cells cs []]) =
   some (.d (.i .i64 (cmpN (valL (a.take i)) (valL (c.take i)))), [Ob.cells ds [], Ob.cells cs []])
 | 0, hi => by
  rw [a62_at87]
  simp [cmpN]
 | i + 1, hi => by
  rw [a62_at87]
  have ih := cmpA_loop b_0 b_2 cs ds a c ha hc hb hac i (by omega)
  have hia : i < a.length := by omega
  have hic : i < c.length := by omega
  obtain ⟨u, eu, hu⟩ := ha.get hia
  obtain ⟨v, ev, hv⟩ := hc.get hic
  have ga : a[i]? = some (u : Int) := by rw [List.getElem?_eq_getElem hia, eu]
  have gc : c[i]? = some (v : Int) := by rw [List.getElem?_eq_getElem hic, ev]
  have pa := val_lt (ha.take i)
  have pc := val_lt (hc.take i)
  rw [List.length_take, Nat.min_eq_left (by omega)] at pa pc
  have e0 : (((i + 1 : Nat) : Int) - 1) = (i : Int) := by omega
  have h0 : (i : Int) ≥ 0 := by omega
  have hw : IntKind.i64.wrap ((i : Int) - 1) = (i : Int) - 1 := by rw [wrap_i64] <;> omega
  rw [e0, take_val a i hia, take_val c i hic, eu, ev]
  simp only [Int.toNat_natCast]
  generalize valL (a.take i) = p at *
  generalize valL (c.take i) = q at *
  rcases Nat.lt_trichotomy u v with h | h | h
  ·have h1 : (u : Int) < (v : Int) := by omega
   have h2 : cmpN (p + W ^ i * u) (q + W ^ i * v) = -1 := by
    unfold cmpN; rw [if_pos (lex_lt pa h)]
   simp [h0, ga, gc, h1, h2]
  ·subst h
   have h2 : cmpN (p + W ^ i * u) (q + W ^ i * u) = cmpN p q := by
    unfold cmpN; congr 1
    ·exact propext (by omega)
    ·congr 1; exact propext (by omega)
   rw [h2]
   simp [h0, ga, gc, hw, ih]
  ·have h1 : ¬ (u : Int) < (v : Int) := by omega
   have h1' : (v : Int) < (u : Int) := by omega
   have h2 : cmpN (p + W ^ i * u) (q + W ^ i * v) = 1 := by
    have := lex_lt (q := p) pc h
    unfold cmpN; rw [if_neg (by omega), if_pos this]
   simp [h0, ga, gc, h1, h1', h2]
theorem val_len {a : List Int} (ha : U32 a) : (limbs (valL a)).length ≤ a.length := limbs_len (val_lt ha)
theorem cmpA_run (a c : List Int) (ha : U32 a) (hc : U32 c) (la : a.length ≤ 100000) (lc : c.length ≤ 100000) : rk Tryz.prog polA (Task.call 164 [V.m 0 0 a.length, V.m 1 0 c.length] [Ob.cells (cellsOf c) [], Ob.cells (cellsOf a) []]) = some (.d (.i .i64 (cmpN (valL a) (valL c))), [Ob.cells (cellsOf c) [], Ob.cells (cellsOf a) []]) := by
 rw [a62]
 have c1 := cutA_run a ha (by omega)
 have c2 := cutP_run c (cellsOf a) hc (by omega)
 rw [nl_ws] at c1 c2
 have lx := val_len ha
 have ly := val_len hc
 simp only [interp_call', c1, c2, Option.bind_some, unCons_c, unCells_c, unNil_n, beq_self_eq_true, interp_ift', if_true, asD_d, asL_l, ws_len, interp_brB, decide_eq_true_eq]
 generalize valL a = x at *
 generalize valL c = y at *
 by_cases h1 : (limbs x).length < (limbs y).length
 ·have := len_lt h1
  rw [if_pos (by omega), cmpN, if_pos this]; rfl
 ·by_cases h2 : (limbs y).length < (limbs x).length
  ·have := len_lt h2
   rw [if_neg (by omega), if_pos (by omega), cmpN, if_neg (by omega), if_pos this]; rfl
  ·have h3 : (limbs x).length = (limbs y).length := by omega
   have := cmpA_loop (nb x) (nb y) (cellsOf a) (cellsOf c) (limbs x) (limbs y) (limbs_u32 x) (limbs_u32 y) (by omega) h3 (limbs x).length (Nat.le_refl _)
   rw [List.take_length, h3, List.take_length, val_limbs, val_limbs] at this
   have hw : IntKind.i64.wrap (((limbs y).length : Int) - 1) = ((limbs y).length : Int) - 1 := by rw [wrap_i64] <;> omega
   rw [if_neg (by omega), if_neg (by omega), h3, hw, ws, ws, this]
   rfl
theorem c51_at195 (b_0 : Bool) (l_1 : List D) (n_2 : Int) (b_3 : Bool) :
  rk Tryz.prog polC (Task.at_ 162 0 [true, false, false, false, false, true, true] (sv 22 [(0, V.d (D.l b_0 l_1)), (3, V.d (D.i IntKind.i64 n_2)), (15, V.d (D.b b_3))]) [] []) = interp (rk Tryz.prog polC) (
brB b_3 (Tr.call (Task.at_ 162 0 [false, false, true, true] (sv 22 [(0, V.d (D.l b_0 l_1)), (3, V.d (D.i IntKind.i64 (IntKind.i64.wrap (n_2 - 1))))]) [] []) Tr.ret)
  (ift (decide (0 ≤ n_2 ∧ n_2 ≤ (↑l_1.length : Int)))
    (ift (headOk 1 l_1)
      (ift (headOk 1 (List.take (n_2.toNat - 0) (List.drop 0 l_1)))
        (ift (((List.take (n_2.toNat - 0) (List.drop 0 l_1)).map V.d).all V.one)
         (ift (decide ((List.take (n_2.toNat - 0) (List.drop 0 l_1)).length ≤ 4294967296))
          (ob (out1 0 (V.m 0 0 (List.take (n_2.toNat - 0) (List.drop 0 l_1)).length) [Ob.cells (List.map V.d (List.take (n_2.toNat - 0) (List.drop 0 l_1))) []]) Tr.ret))))))) :=
  rk_of (by kernel_rfl)
theorem refs_cells (a : List Int) : refsLts 0 (cellsOf a) = true := by
 refine refsLts_get.2 fun c hc => ?_
 simp only [cellsOf, ints, List.map_map, List.mem_map] at hc
 obtain ⟨z, _, rfl⟩ := hc
 rfl
theorem one_cells (a : List Int) : (cellsOf a).all V.one = true := by
 rw [List.all_eq_true]
 intro c hc
 simp only [cellsOf, ints, List.map_map, List.mem_map] at hc
 obtain ⟨z, _, rfl⟩ := hc
 rfl
theorem out_cells (a : List Int) (n : Nat) : out1 0 (V.m 0 0 n) [Ob.cells (cellsOf a) []] = some (.m 0 0 n, [.cells (cellsOf a) []]) := by
 simp [out1, oget, refs_cells, cutS]
theorem cutC_loop (b : Bool) (a : List Int) (ha : U32 a) (hb : a.length ≤ 1000000) : ∀ n : Nat, n ≤ a.length → valL (a.take n) = valL a →
  rk Tryz.prog polC (Task.at_ 162 0 [false, false, true, true] (sv 22 [(0, V.d (D.l b (ints .u32 a))), (3, V.d (D.i .i64 (n : Int)))]) [] []) = some (.m 0 0 (limbs (valL a)).length, [.cells (cellsOf (limbs (valL a))) []])
 | 0, hn, hv => by
  rw [c51_at19]
  have h0 : valL a = 0 := by rw [← hv]; rfl
  have ho : out1 0 (V.m 0 0 0) [Ob.cells [] []] = some (.m 0 0 0, [.cells [] []]) := out_cells [] 0
  have hc0 : cellsOf [] = [] := rfl
  simp [c51_at195, h0, limbs_zero, hc0, ho]
 | n + 1, hn, hv => by
  rw [c51_at19]
  have hx : n < a.length := by omega
  have gx := List.getElem?_eq_getElem hx
  have hp : (0 : Int) < (n : Int) + 1 := by omega
  have hw : IntKind.i64.wrap (n : Int) = (n : Int) := by rw [wrap_i64] <;> omega
  by_cases h0 : a[n] = 0
  ·have ih := cutC_loop b a ha hb n (by omega) (by rw [← hv]; exact (val_take_zero a n (by rw [gx, h0])).symm)
   simp [hp, hw, gx, h0, c51_at195, ih]
  ·have e : limbs (valL a) = a.take (n + 1) := by rw [← hv]; exact limbs_take ha hx h0
   have hle : ((0 : Int) ≤ (n : Int) + 1 ∧ (n : Int) + 1 ≤ ((ints .u32 a).length : Nat)) := by rw [len_ints]; omega
   have ht : ((n : Int) + 1).toNat = n + 1 := by omega
   have e1 : List.take ((n + 1) - 0) (List.drop 0 (ints .u32 a)) = ints .u32 (a.take (n + 1)) := by simp [take_ints]
   have e2 : (ints .u32 (a.take (n + 1))).map V.d = cellsOf (a.take (n + 1)) := rfl
   have hl : (a.take (n + 1)).length ≤ 4294967296 := by rw [List.length_take]; omega
   have hl2 : (ints .u32 (a.take (n + 1))).length = (a.take (n + 1)).length := by rw [len_ints]
   rw [e]
   have hb0 : ((a[n] : Int) == 0) = false := beq_eq_false_iff_ne.2 h0
   have hpd : ((n + 1 : Nat) : Int) > 0 := by omega
   have hn1 : ((n + 1 : Nat) : Int) = (n : Int) + 1 := by omega
   have hwi : IntKind.i64.wrap (((n + 1 : Nat) : Int) - 1) = (n : Int) := by rw [wrap_i64] <;> omega
   simp only [interp_brB, decide_eq_true hpd, if_true, hwi, interp_ob', getI_nat, get_ints, gx, Option.map_some, Option.bind_some, width_i, beq_self_eq_true, interp_ift', Int.toNat_natCast, cells_i, List.getElem?_cons_zero, interp_asI, hb0, interp_call_ret]
   rw [c51_at195, hn1, ht, e1, e2]
   simp only [interp_brB, Bool.false_eq_true, if_false, interp_ift', decide_eq_true hle, head_ints, if_true, one_cells, decide_eq_true hl, interp_ob', hl2, out_cells, Option.bind_some, interp_ret]
theorem cutC_run (b : Bool) (a : List Int) (ha : U32 a) (hb : a.length ≤ 1000000) : rk Tryz.prog polC (Task.call 162 [V.d (D.l b (ints .u32 a))] []) = some (.m 0 0 (limbs (valL a)).length, [.cells (cellsOf (limbs (valL a))) []]) := by
 rw [c51]
 simp [cutC_loop b a ha hb a.length (Nat.le_refl _) (by rw [List.take_length])]
theorem cmpN_neg' (x y : Nat) : decide (cmpN x y < 0) = decide (x < y) := by
 unfold cmpN
 by_cases h : x < y
 ·simp [h]
 ·by_cases h2 : y < x <;> simp [h, h2]
theorem ext_callS {k : Nat} {g : List V → List Ob → Option Out} (h : polS.ext k = some g) (args : List V) (S : List Ob) : rk Tryz.prog polS (Task.call k args S) = g args S := by
 rw [rk_eq]
 simp only [stepK, h, interp_ob']
 cases g args S <;> simp
theorem unInts_ints' (a : List Int) : unInts .u32 (ints .u32 a) = some a := by
 induction a with
 | nil => rfl
 | cons z a ih => rw [ints_cons, unInts, if_pos rfl, ih]; rfl
theorem unCells_cells (a : List Int) : unCellsU (cellsOf a) = some a := by
 induction a with
 | nil => rfl
 | cons z a ih =>
  show unCellsU (V.d (.i .u32 z) :: cellsOf a) = _
  rw [unCellsU, ih]; rfl
theorem ok_u {a : List Int} (h : U32 a) (hl : a.length ≤ 100000) : okU a = true := by
 have : (a.all fun z => decide (0 ≤ z) && decide (z < 4294967296)) = true := by
  rw [List.all_eq_true]
  intro z hz
  have := h z hz
  simp [this.1, this.2]
 simp only [okU, this, Bool.true_and]
 exact decide_eq_true hl
theorem cutS_d (b : Bool) (a : List Int) (ha : U32 a) (hl : a.length ≤ 100000) : rk Tryz.prog polS (Task.call 162 [V.d (D.l b (ints .u32 a))] []) = some (.m 0 0 (limbs (valL a)).length, [.cells (cellsOf (limbs (valL a))) []]) := by
 rw [ext_callS (g := cutExtS) rfl]
 simp only [cutExtS, unInts_ints']
 rw [if_pos (ok_u ha hl)]
 simp [cellsU, cellsOf, ints]
theorem cutS_m (a : List Int) (ha : U32 a) (hl : a.length ≤ 100000) : rk Tryz.prog polS (Task.call 162 [V.m 0 0 a.length] [.cells (cellsOf a) []]) = some (.d (nl (valL a)), [.cells (cellsOf a) []]) := by
 rw [ext_callS (g := cutExtS) rfl]
 simp only [cutExtS, unCells_cells]
 rw [if_pos ⟨trivial, ok_u ha hl⟩]
theorem cmpS_m (a c : List Int) (ha : U32 a) (hc : U32 c) (hl : a.length ≤ 100000) (hlc : c.length ≤ 100000) : rk Tryz.prog polS (Task.call 164 [V.m 0 0 a.length, V.m 1 0 c.length] [.cells (cellsOf c) [], .cells (cellsOf a) []]) = some (.d (.i .i64 (cmpN (valL a) (valL c))), [.cells (cellsOf c) [], .cells (cellsOf a) []]) := by
 rw [ext_callS (g := cmpExtS) rfl]
 simp only [cmpExtS, unCells_cells]
 rw [if_pos ⟨trivial, trivial, ok_u ha hl, ok_u hc hlc⟩]
 rfl
theorem set_mid (out : List Int) (x d : Int) (r : List Int) : (out ++ x :: r).set out.length d = out ++ d :: r := by
 rw [List.set_append_right _ _ (Nat.le_refl _), Nat.sub_self]; rfl
theorem sub_last (X Y A : List Int) (i b : Nat) (n : Nat) (hi : i < X.length) (hX : X.length ≤ 100000) (T H : Nat) (b' : Nat) (R : Option Out) (hA : A.length = X.length) (hTH : T ≤ H) (hHT : H - T < 4294967296) (hH : H < 18446744073709551616)
  (h : rk Tryz.prog polS (Task.at_ 218 0 [false, true, false, true, true, true, true] (sv 55 [(0, V.m 0 0 X.length), (1, V.m 1 0 Y.length), (6, V.d (D.i IntKind.u64 (b' : Int))), (19, V.d (D.i IntKind.i64 (n : Int))), (20, V.d (D.i IntKind.i64 ((i + 1 : Nat) : Int)))]) []
    [Ob.cells (cellsOf Y) [], Ob.cells (cellsOf (A.set i ((H - T : Nat) : Int))) []]) = R) :
  rk Tryz.prog polS (Task.at_ 218 0 [true, true, true, true, true, true, false, false, true, true, false, false, true, false, true, true, true, true]
 (sv 55 [(0, V.m 0 0 X.length), (1, V.m 1 0 Y.length), (6, V.d (D.i IntKind.u64 (b' : Int))), (7, V.d (D.i IntKind.i64 (i : Int))), (8, V.d (D.i IntKind.u64 (T : Int))), (9, V.d (D.i IntKind.u64 (H : Int))), (19, V.d (D.i IntKind.i64 (n : Int))), (20, V.d (D.i IntKind.i64 (i : Int)))])
 [] [Ob.cells (cellsOf Y) [], Ob.cells (cellsOf A) []]) = R := by
 rw [s81_at521007]
 have hb1 : (0 : Int) ≤ (i : Int) ∧ (i : Int) < ((X.length : Nat) : Int) := by omega
 have hb2 : i < (cellsOf A).length := by rw [cellsOf_len]; omega
 have hw1 : IntKind.u64.wrap ((H : Int) - (T : Int)) = ((H - T : Nat) : Int) := by rw [u64_wrap]; omega
 have hw2 : IntKind.u32.wrap ((H - T : Nat) : Int) = ((H - T : Nat) : Int) := by rw [u32_wrap]; omega
 have hw3 : IntKind.i64.wrap ((i : Int) + 1) = ((i + 1 : Nat) : Int) := by rw [wrap_i64] <;> omega
 simp only [interp_ift', decide_eq_true hb1, if_true, Int.toNat_natCast, decide_eq_true hb2, Bool.and_true, hw1, hw2, hw3, Nat.zero_add, cells_set, interp_call_ret, h]
theorem sub_mid (X Y A : List Int) (i : Nat) (n : Nat) (hi : i < X.length) (hX : X.length ≤ 100000) (T x : Nat) (hx : x < 4294967296) (hT : T ≤ 4294967296) (R : Option Out) (hA : A.length = X.length) (hg : A[i]? = some (x : Int))
  (h : rk Tryz.prog polS (Task.at_ 218 0 [false, true, false, true, true, true, true] (sv 55 [(0, V.m 0 0 X.length), (1, V.m 1 0 Y.length), (6, V.d (D.i IntKind.u64 ((if x < T then 1 else 0 : Nat) : Int))), (19, V.d (D.i IntKind.i64 (n : Int))), (20, V.d (D.i IntKind.i64 ((i + 1 : Nat) : Int)))]) []
    [Ob.cells (cellsOf Y) [], Ob.cells (cellsOf (A.set i (((x + W * (if x < T then 1 else 0) - T : Nat)) : Int))) []]) = R) :
  rk Tryz.prog polS (Task.at_ 218 0 [true, true, true, false, false, true, true, false, false, true, false, true, true, true, true]
 (sv 55 [(0, V.m 0 0 X.length), (1, V.m 1 0 Y.length), (7, V.d (D.i IntKind.i64 (i : Int))), (8, V.d (D.i IntKind.u64 (T : Int))), (19, V.d (D.i IntKind.i64 (n : Int))), (20, V.d (D.i IntKind.i64 (i : Int)))]) []
 [Ob.cells (cellsOf Y) [], Ob.cells (cellsOf A) []]) = R := by
 rw [s81_at62255]
 have hb1 : (0 : Int) ≤ (i : Int) ∧ (i : Int) < ((X.length : Nat) : Int) := by omega
 have hw1 : IntKind.u64.wrap (x : Int) = (x : Int) := by rw [u64_wrap]; omega
 have hw2 : IntKind.u64.wrap ((x : Int) + 4294967296) = ((x + 4294967296 : Nat) : Int) := by rw [u64_wrap]; omega
 simp only [interp_ift', decide_eq_true hb1, if_true, Int.toNat_natCast, Nat.zero_add, cellsOf_get, hg, Option.map_some, interp_ob', Option.bind_some, asD_d, interp_asI, hw1, hw2, interp_brB, decide_eq_true_eq]
 by_cases hlt : x < T
 ·have hlt' : (x : Int) < (T : Int) := by omega
  rw [if_pos hlt', interp_call_ret]
  simp only [if_pos hlt, Nat.mul_one] at h
  have e : x + W = x + 4294967296 := rfl
  rw [e] at h
  exact sub_last X Y A i 0 n hi hX T (x + 4294967296) 1 R hA (by omega) (by omega) (by omega) h
 ·have hlt' : ¬ (x : Int) < (T : Int) := by omega
  rw [if_neg hlt', interp_call_ret]
  simp only [if_neg hlt, Nat.mul_zero, Nat.add_zero] at h
  exact sub_last X Y A i 0 n hi hX T x 0 R hA (by omega) (by omega) (by omega) h
theorem sub_loop (X Y : List Int) (hX : U32 X) (hY : U32 Y) (lX : X.length ≤ 100000) (lY : Y.length ≤ 100000) (hYX : Y.length ≤ X.length) (hge : valL Y ≤ valL X) : ∀ (d i : Nat) (out : List Int) (b : Nat), i + d = X.length → U32 out → out.length = i → b ≤ 1 → valL out + valL (Y.take i) = valL (X.take i) + W ^ i * b →
  rk Tryz.prog polS (Task.at_ 218 0 [false, true, false, true, true, true, true] (sv 55 [(0, V.m 0 0 X.length), (1, V.m 1 0 Y.length), (6, V.d (D.i IntKind.u64 (b : Int))), (19, V.d (D.i IntKind.i64 (X.length : Int))), (20, V.d (D.i IntKind.i64 (i : Int)))]) []
    [Ob.cells (cellsOf Y) [], Ob.cells (cellsOf (out ++ X.drop i)) []]) = some (.t [.d (nl (valL X - valL Y)), .d (.b true)], []) := by
 intro d
 induction d with
 | zero =>
  intro i out b hi hu hl hb hv
  rw [s81_at175]
  have hd : X.drop i = [] := List.drop_eq_nil_of_le (by omega)
  have hol : X.length = out.length := by omega
  have h3 : ¬ ((i : Int) < ((out.length : Nat) : Int)) := by omega
  rw [hd, List.append_nil]
  rw [List.take_of_length_le (show Y.length ≤ i by omega), List.take_of_length_le (show X.length ≤ i by omega)] at hv
  have hlt := val_lt hu
  rw [hl] at hlt
  have hb0 : b = 0 := by
   rcases (show b = 0 ∨ b = 1 by omega) with h | h
   ·exact h
   ·rw [h, Nat.mul_one] at hv; omega
  have hvo : valL out = valL X - valL Y := by rw [hb0, Nat.mul_zero] at hv; omega
  have hcm := cutS_m out hu (by omega)
  rw [hvo, nl_ws] at hcm
  simp only [interp_brB, decide_eq_false h3, Bool.false_eq_true, if_false, hol, interp_call', hcm, Option.bind_some, unCons_c, unCells_c, unNil_n, beq_self_eq_true, interp_ift', if_true, asD_d, asL_l, interp_ret]
  rfl
 | succ d ih =>
  intro i out b hi hu hl hb hv
  have hiX : i < X.length := by omega
  have h3 : (i : Int) < ((X.length : Nat) : Int) := by omega
  obtain ⟨x, ex, hx⟩ := hX.get hiX
  have hdr : X.drop i = (x : Int) :: X.drop (i + 1) := by rw [List.drop_eq_getElem_cons hiX, ex]
  have hg : (out ++ X.drop i)[i]? = some (x : Int) := by rw [hdr, ← hl]; simp
  have hAl : (out ++ X.drop i).length = X.length := by rw [List.length_append, List.length_drop]; omega
  have fin : ∀ T y : Nat, T = b + y → y < 4294967296 → valL (Y.take (i + 1)) = valL (Y.take i) + W ^ i * y →
    rk Tryz.prog polS (Task.at_ 218 0 [true, true, true, false, false, true, true, false, false, true, false, true, true, true, true]
 (sv 55 [(0, V.m 0 0 X.length), (1, V.m 1 0 Y.length), (7, V.d (D.i IntKind.i64 (i : Int))), (8, V.d (D.i IntKind.u64 (T : Int))), (19, V.d (D.i IntKind.i64 (X.length : Int))), (20, V.d (D.i IntKind.i64 (i : Int)))]) []
 [Ob.cells (cellsOf Y) [], Ob.cells (cellsOf (out ++ X.drop i)) []]) = some (.t [.d (nl (valL X - valL Y)), .d (.b true)], []) := by
   intro T y hT hy hyv
   refine sub_mid X Y _ i _ hiX lX T x hx (by omega) _ hAl hg ?_
   have hset : (out ++ X.drop i).set i (((x + W * (if x < T then 1 else 0) - T : Nat)) : Int) = (out ++ [((x + W * (if x < T then 1 else 0) - T : Nat) : Int)]) ++ X.drop (i + 1) := by
    rw [hdr, ← hl, set_mid]; simp
   rw [hset]
   have hd1 : x + W * (if x < T then 1 else 0) - T < 4294967296 := by unfold W; split <;> omega
   have hd2 : x + W * (if x < T then 1 else 0) - T + T = x + W * (if x < T then 1 else 0) := by unfold W; split <;> omega
   refine ih (i + 1) _ (if x < T then 1 else 0) (by omega) (hu.snoc hd1) (by simp [hl]) (by split <;> omega) ?_
   generalize x + W * (if x < T then 1 else 0) - T = dd at hd2
   rw [val_append, hl, take_val X i hiX, ex, hyv]
   simp only [valL, Int.toNat_natCast, Nat.mul_zero, Nat.add_zero]
   rw [Nat.pow_succ]
   have e1 : W ^ i * dd + W ^ i * T = W ^ i * x + W ^ i * (W * (if x < T then 1 else 0)) := by rw [← Nat.mul_add, hd2, Nat.mul_add]
   rw [hT, Nat.mul_add] at e1
   rw [← hT] at e1
   rw [Nat.mul_assoc]
   omega
  rw [s81_at175]
  by_cases hiY : i < Y.length
  ·have h4 : (i : Int) < ((Y.length : Nat) : Int) := by omega
   obtain ⟨y, ey, hy⟩ := hY.get hiY
   have gy : Y[i]? = some (y : Int) := by rw [List.getElem?_eq_getElem hiY, ey]
   have hb1 : (0 : Int) ≤ (i : Int) ∧ (i : Int) < ((Y.length : Nat) : Int) := by omega
   have hw : IntKind.u64.wrap ((b : Int) + IntKind.u64.wrap (y : Int)) = ((b + y : Nat) : Int) := by rw [u64_wrap (y : Int), u64_wrap]; omega
   simp only [interp_brB, decide_eq_true h3, decide_eq_true h4, if_true, interp_ift', decide_eq_true hb1, Int.toNat_natCast, Nat.zero_add, cellsOf_get, gy, Option.map_some, interp_ob', Option.bind_some, asD_d, interp_asI, hw, interp_call_ret]
   exact fin (b + y) y rfl hy (by rw [take_val Y i hiY, ey, Int.toNat_natCast])
  ·have h4 : ¬ (i : Int) < ((Y.length : Nat) : Int) := by omega
   simp only [interp_brB, decide_eq_true h3, decide_eq_false h4, if_true, Bool.false_eq_true, if_false, interp_call_ret]
   exact fin b 0 rfl (by decide) (by rw [List.take_of_length_le (by omega), List.take_of_length_le (by omega)]; simp)
theorem sub_run (b c : Bool) (a e : List Int) (ha : U32 a) (he : U32 e) (la : a.length ≤ 100000) (le : e.length ≤ 100000) : rk Tryz.prog polS (Task.call 218 [V.d (D.l b (ints .u32 a)), V.d (D.l c (ints .u32 e))] []) = some (subR (valL a) (valL e), []) := by
 rw [s81]
 have lx := val_len ha
 have ly := val_len he
 have c1 := cutS_d b a ha la
 have c2 := cutS_d c e he le
 have c3 := cmpS_m (limbs (valL a)) (limbs (valL e)) (limbs_u32 _) (limbs_u32 _) (by omega) (by omega)
 rw [val_limbs, val_limbs] at c3
 simp only [interp_call', c1, Option.bind_some, interp_asM, refs_cells, if_true, c2, c3, unCons_c, unCells_c, unNil_n, beq_self_eq_true, interp_ift', asD_d, interp_asI, interp_brB, cmpN_neg']
 unfold subR
 by_cases h : valL a < valL e
 ·rw [if_pos (by simpa using h), if_pos h]; rfl
 ·rw [if_neg (by simpa using h), if_neg h]
  have hll : (limbs (valL e)).length ≤ (limbs (valL a)).length := by
   rcases Nat.lt_or_ge (limbs (valL a)).length (limbs (valL e)).length with h' | h'
   ·exact absurd (len_lt h') h
   ·exact h'
  have := sub_loop (limbs (valL a)) (limbs (valL e)) (limbs_u32 _) (limbs_u32 _) (by omega) (by omega) hll (by rw [val_limbs, val_limbs]; omega) (limbs (valL a)).length 0 [] 0 (by omega) U32.nil rfl (by decide) (by simp [valL])
  rw [val_limbs, val_limbs, List.nil_append, List.drop_zero, Int.natCast_zero] at this
  rw [this]; rfl
end Go.Dn.Dec
namespace Go.Proofs
open Go.Shelf
def Tryz.lays161_ren : Go.Shelf.Ren := ⟨fun | 161 => 183 | 231 => 209 | 227 => 171 | 233 => 210 | 235 => 211 | 228 => 200 | 197 => 220 | 151 => 202 | 260 => 229 | 152 => 221 | 137 => 85 | 119 => 230 | 224 => 205 | 225 => 204 | 217 => 135 | 266 => 180 | n => n, fun | 9 => 9 | 4 => 4 | 3 => 3 | 5 => 5 | 117 => 194 | 116 => 193 | 0 => 0 | 124 => 197 | 105 => 218 | 21 => 21 | 119 => 242 | 46 => 144 | 139 => 245 | 138 => 244 | n => n, fun | 3 => 6 | 4 => 7 | n => n⟩
theorem Tryz.lays161 : Go.Proofs.Lays.n161 Tryz.prog Tryz.lays161_ren := {
 mixed := by kernel_rfl
 f119 := Tryz.func230.trans (congrArg some (by kernel_rfl))
 f137 := Tryz.func85.trans (congrArg some (by kernel_rfl))
 f151 := Tryz.func202.trans (congrArg some (by kernel_rfl))
 f152 := Tryz.func221.trans (congrArg some (by kernel_rfl))
 f161 := Tryz.func183.trans (congrArg some (by kernel_rfl))
 f197 := Tryz.func220.trans (congrArg some (by kernel_rfl))
 f217 := Tryz.func135.trans (congrArg some (by kernel_rfl))
 f224 := Tryz.func205.trans (congrArg some (by kernel_rfl))
 f225 := Tryz.func204.trans (congrArg some (by kernel_rfl))
 f227 := Tryz.func171.trans (congrArg some (by kernel_rfl))
 f228 := Tryz.func200.trans (congrArg some (by kernel_rfl))
 f231 := Tryz.func209.trans (congrArg some (by kernel_rfl))
 f233 := Tryz.func210.trans (congrArg some (by kernel_rfl))
 f235 := Tryz.func211.trans (congrArg some (by kernel_rfl))
 f260 := Tryz.func229.trans (congrArg some (by kernel_rfl))
 f266 := Tryz.func180.trans (congrArg some (by kernel_rfl))
 t0 := Tryz.underlying0
 a0 := Tryz.isAgg0
 z0 := Tryz.sizeOf0
 v0 := Tryz.zeroValue0
 t3 := Tryz.underlying3
 a3 := Tryz.isAgg3
 z3 := Tryz.sizeOf3
 v3 := Tryz.zeroValue3
 t4 := Tryz.underlying4
 a4 := Tryz.isAgg4
 z4 := Tryz.sizeOf4
 v4 := Tryz.zeroValue4
 t5 := Tryz.underlying5
 a5 := Tryz.isAgg5
 z5 := Tryz.sizeOf5
 v5 := Tryz.zeroValue5
 t9 := Tryz.underlying9
 a9 := Tryz.isAgg9
 z9 := Tryz.sizeOf9
 v9 := Tryz.zeroValue9
 t21 := Tryz.underlying21
 a21 := Tryz.isAgg21
 z21 := Tryz.sizeOf21
 v21 := Tryz.zeroValue21
 t46 := Tryz.underlying144
 a46 := Tryz.isAgg144
 z46 := Tryz.sizeOf144
 v46 := Tryz.zeroValue144
 t105 := Tryz.underlying218
 a105 := Tryz.isAgg218
 z105 := Tryz.sizeOf218
 v105 := Tryz.zeroValue218
 t116 := Tryz.underlying193
 a116 := Tryz.isAgg193
 z116 := Tryz.sizeOf193
 t117 := Tryz.underlying194
 a117 := Tryz.isAgg194
 z117 := Tryz.sizeOf194
 v117 := Tryz.zeroValue194
 t119 := Tryz.underlying242
 a119 := Tryz.isAgg242
 z119 := Tryz.sizeOf242
 t124 := Tryz.underlying197
 a124 := Tryz.isAgg197
 z124 := Tryz.sizeOf197
 v124 := Tryz.zeroValue197
 t138 := Tryz.underlying244
 a138 := Tryz.isAgg244
 z138 := Tryz.sizeOf244
 v138 := Tryz.zeroValue244
 t139 := Tryz.underlying245
 a139 := Tryz.isAgg245
 z139 := Tryz.sizeOf245
 v139 := Tryz.zeroValue245
 g3 := by kernel_rfl
 g4 := by kernel_rfl }
open Go.RowKit in
/-- strings.TrimLeft: "TrimLeft returns a slice of the string s with all leading Unicode code points contained in cutset removed.": AT A cutset OF ONE ASCII BYTE. The world is as it was. (LAID: no walk: one application.) -/
theorem Tryz.strings_TrimLeft_one (s : ByteArray) (c : UInt8) (hc : c.toNat < 128) (w : World) :
  Calls Tryz.prog 183 #[.string s, .string ⟨#[c]⟩] w fun e w' => e = .returned (.string ⟨(Lib.trimLeftB s.data.toList c).toArray⟩) ∧ w' = w := Any.strings_TrimLeft_one Tryz.lays161 s c hc w
def Tryz.lays162_ren : Go.Shelf.Ren := ⟨fun | 162 => 117 | 232 => 170 | 227 => 171 | 234 => 172 | 236 => 173 | 228 => 200 | 271 => 201 | 151 => 202 | 120 => 219 | 197 => 220 | 152 => 221 | 260 => 229 | 137 => 85 | 119 => 230 | 224 => 205 | 225 => 204 | 217 => 135 | 266 => 180 | n => n, fun | 9 => 9 | 4 => 4 | 3 => 3 | 5 => 5 | 117 => 194 | 116 => 193 | 0 => 0 | 124 => 197 | 21 => 21 | 105 => 218 | 46 => 144 | 119 => 242 | 139 => 245 | 138 => 244 | n => n, fun | 3 => 6 | 4 => 7 | n => n⟩
theorem Tryz.lays162 : Go.Proofs.Lays.n162 Tryz.prog Tryz.lays162_ren := {
 mixed := by kernel_rfl
 f119 := Tryz.func230.trans (congrArg some (by kernel_rfl))
 f120 := Tryz.func219.trans (congrArg some (by kernel_rfl))
 f137 := Tryz.func85.trans (congrArg some (by kernel_rfl))
 f151 := Tryz.func202.trans (congrArg some (by kernel_rfl))
 f152 := Tryz.func221.trans (congrArg some (by kernel_rfl))
 f162 := Tryz.func117.trans (congrArg some (by kernel_rfl))
 f197 := Tryz.func220.trans (congrArg some (by kernel_rfl))
 f217 := Tryz.func135.trans (congrArg some (by kernel_rfl))
 f224 := Tryz.func205.trans (congrArg some (by kernel_rfl))
 f225 := Tryz.func204.trans (congrArg some (by kernel_rfl))
 f227 := Tryz.func171.trans (congrArg some (by kernel_rfl))
 f228 := Tryz.func200.trans (congrArg some (by kernel_rfl))
 f232 := Tryz.func170.trans (congrArg some (by kernel_rfl))
 f234 := Tryz.func172.trans (congrArg some (by kernel_rfl))
 f236 := Tryz.func173.trans (congrArg some (by kernel_rfl))
 f260 := Tryz.func229.trans (congrArg some (by kernel_rfl))
 f266 := Tryz.func180.trans (congrArg some (by kernel_rfl))
 f271 := Tryz.func201.trans (congrArg some (by kernel_rfl))
 t0 := Tryz.underlying0
 a0 := Tryz.isAgg0
 z0 := Tryz.sizeOf0
 v0 := Tryz.zeroValue0
 t3 := Tryz.underlying3
 a3 := Tryz.isAgg3
 z3 := Tryz.sizeOf3
 v3 := Tryz.zeroValue3
 t4 := Tryz.underlying4
 a4 := Tryz.isAgg4
 z4 := Tryz.sizeOf4
 v4 := Tryz.zeroValue4
 t5 := Tryz.underlying5
 a5 := Tryz.isAgg5
 z5 := Tryz.sizeOf5
 v5 := Tryz.zeroValue5
 t9 := Tryz.underlying9
 a9 := Tryz.isAgg9
 z9 := Tryz.sizeOf9
 v9 := Tryz.zeroValue9
 t21 := Tryz.underlying21
 a21 := Tryz.isAgg21
 z21 := Tryz.sizeOf21
 v21 := Tryz.zeroValue21
 t46 := Tryz.underlying144
 a46 := Tryz.isAgg144
 z46 := Tryz.sizeOf144
 v46 := Tryz.zeroValue144
 t105 := Tryz.underlying218
 a105 := Tryz.isAgg218
 z105 := Tryz.sizeOf218
 v105 := Tryz.zeroValue218
 t116 := Tryz.underlying193
 a116 := Tryz.isAgg193
 z116 := Tryz.sizeOf193
 t117 := Tryz.underlying194
 a117 := Tryz.isAgg194
 z117 := Tryz.sizeOf194
 v117 := Tryz.zeroValue194
 t119 := Tryz.underlying242
 a119 := Tryz.isAgg242
 z119 := Tryz.sizeOf242
 t124 := Tryz.underlying197
 a124 := Tryz.isAgg197
 z124 := Tryz.sizeOf197
 v124 := Tryz.zeroValue197
 t138 := Tryz.underlying244
 a138 := Tryz.isAgg244
 z138 := Tryz.sizeOf244
 v138 := Tryz.zeroValue244
 t139 := Tryz.underlying245
 a139 := Tryz.isAgg245
 z139 := Tryz.sizeOf245
 v139 := Tryz.zeroValue245
 g3 := by kernel_rfl
 g4 := by kernel_rfl }
open Go.RowKit in
/-- strings.TrimRight: "TrimRight returns a slice of the string s, with all trailing Unicode code points contained in cutset removed.": AT A cutset OF ONE ASCII BYTE. The world is as it was. (LAID: no walk: one application.) -/
theorem Tryz.strings_TrimRight_one (s : ByteArray) (c : UInt8) (hc : c.toNat < 128) (w : World) (hs : s.size ≤ 9223372036854775807) :
  Calls Tryz.prog 117 #[.string s, .string ⟨#[c]⟩] w fun e w' => e = .returned (.string ⟨(Lib.trimRightB s.data.toList c).toArray⟩) ∧ w' = w := Any.strings_TrimRight_one Tryz.lays162 s c hc w hs
def Tryz.lays128_ren : Go.Shelf.Ren := ⟨fun | 128 => 163 | n => n, fun | 51 => 147 | 3 => 3 | 4 => 4 | 46 => 144 | 5 => 5 | 9 => 9 | n => n, fun | n => n⟩
theorem Tryz.lays128 : Go.Proofs.Lays.n128 Tryz.prog Tryz.lays128_ren := {
 mixed := by kernel_rfl
 f128 := Tryz.func163.trans (congrArg some (by kernel_rfl))
 t3 := Tryz.underlying3
 a3 := Tryz.isAgg3
 z3 := Tryz.sizeOf3
 v3 := Tryz.zeroValue3
 t4 := Tryz.underlying4
 a4 := Tryz.isAgg4
 z4 := Tryz.sizeOf4
 v4 := Tryz.zeroValue4
 t5 := Tryz.underlying5
 a5 := Tryz.isAgg5
 z5 := Tryz.sizeOf5
 v5 := Tryz.zeroValue5
 t9 := Tryz.underlying9
 a9 := Tryz.isAgg9
 z9 := Tryz.sizeOf9
 v9 := Tryz.zeroValue9
 t46 := Tryz.underlying144
 a46 := Tryz.isAgg144
 z46 := Tryz.sizeOf144
 v46 := Tryz.zeroValue144
 t51 := Tryz.underlying147
 a51 := Tryz.isAgg147
 z51 := Tryz.sizeOf147
 v51 := Tryz.zeroValue147 }
theorem Tryz.bits_Len32 (x : Int) (w : World) (h0 : 0 ≤ x) (h1 : x ≤ 4294967295) :
  Calls Tryz.prog 163 #[.int .u32 x] w fun e w' => e = .returned (.int .i64 (Lib.bitLen x.toNat)) ∧ w' = w := Any.bits_Len32 Tryz.lays128 x w h0 h1
def Tryz.lays137_ren : Go.Shelf.Ren := ⟨fun | 137 => 85 | 217 => 135 | 266 => 180 | n => n, fun | 9 => 9 | 5 => 5 | 3 => 3 | n => n, fun | n => n⟩
theorem Tryz.lays137 : Go.Proofs.Lays.n137 Tryz.prog Tryz.lays137_ren := {
 mixed := by kernel_rfl
 f137 := Tryz.func85.trans (congrArg some (by kernel_rfl))
 f217 := Tryz.func135.trans (congrArg some (by kernel_rfl))
 f266 := Tryz.func180.trans (congrArg some (by kernel_rfl))
 t3 := Tryz.underlying3
 a3 := Tryz.isAgg3
 z3 := Tryz.sizeOf3
 v3 := Tryz.zeroValue3
 t5 := Tryz.underlying5
 a5 := Tryz.isAgg5
 z5 := Tryz.sizeOf5
 v5 := Tryz.zeroValue5
 t9 := Tryz.underlying9
 a9 := Tryz.isAgg9
 z9 := Tryz.sizeOf9
 v9 := Tryz.zeroValue9 }
open Go.RowKit in
/-- strings.IndexByte: "IndexByte returns the index of the first instance of c in s, or -1 if c is not present in s.": IT RETURNS 'Lib.indexByte s c'; the world is as it was. (LAID: no walk: one application.) -/
theorem Tryz.strings_IndexByte (s : ByteArray) (c : Int) (w : World) :
  Calls Tryz.prog 85 #[.string s, .int .u8 c] w fun e w' => e = .returned (.int .i64 (Lib.indexByte s.data.toList c.toNat.toUInt8)) ∧ w' = w := Any.strings_IndexByte Tryz.lays137 s c w
def Tryz.lays283_ren : Go.Shelf.Ren := ⟨fun | 283 => 156 | n => n, fun | 3 => 3 | 9 => 9 | 4 => 4 | n => n, fun | n => n⟩
theorem Tryz.lays283 : Go.Proofs.Lays.n283 Tryz.prog Tryz.lays283_ren := {
 mixed := by kernel_rfl
 f283 := Tryz.func156.trans (congrArg some (by kernel_rfl))
 t3 := Tryz.underlying3
 a3 := Tryz.isAgg3
 z3 := Tryz.sizeOf3
 v3 := Tryz.zeroValue3
 t4 := Tryz.underlying4
 a4 := Tryz.isAgg4
 z4 := Tryz.sizeOf4
 v4 := Tryz.zeroValue4
 t9 := Tryz.underlying9
 a9 := Tryz.isAgg9
 z9 := Tryz.sizeOf9
 v9 := Tryz.zeroValue9 }
open Go.Lib in
/-- internal/strconv.small: "small returns the string for an i with 0 <= i < nSmalls.": i's decimal numeral. The world is as it was. (LAID: no walk: one application.) -/
theorem Tryz.internal_strconv_small (i : Nat) (h : i < 100) (w : World) :
  Calls Tryz.prog 156 #[.int .i64 i] w fun e w' => e = .returned (.string ⟨(Lib.decDigits i).toArray⟩) ∧ w' = w := Any.internal_strconv_small Tryz.lays283 i h w
def Tryz.laysM284_ren : Go.Shelf.Ren := ⟨fun | 284 => 157 | 129 => 191 | 317 => 190 | 318 => 192 | n => n, fun | 53 => 49 | 3 => 3 | 212 => 214 | 0 => 0 | 4 => 4 | 46 => 144 | 5 => 5 | 9 => 9 | n => n, fun | 17 => 0 | n => n⟩
theorem Tryz.laysM284 : Go.Proofs.LaysM.n284 Tryz.prog Tryz.laysM284_ren := {
 mixed := by kernel_rfl
 f129 := Tryz.func191.trans (congrArg some (by kernel_rfl))
 f284 := Tryz.func157.trans (congrArg some (by kernel_rfl))
 f317 := Tryz.func190.trans (congrArg some (by kernel_rfl))
 f318 := Tryz.func192.trans (congrArg some (by kernel_rfl))
 t0 := Tryz.underlying0
 a0 := Tryz.isAgg0
 z0 := Tryz.sizeOf0
 v0 := Tryz.zeroValue0
 t3 := Tryz.underlying3
 a3 := Tryz.isAgg3
 z3 := Tryz.sizeOf3
 v3 := Tryz.zeroValue3
 t4 := Tryz.underlying4
 a4 := Tryz.isAgg4
 z4 := Tryz.sizeOf4
 v4 := Tryz.zeroValue4
 t5 := Tryz.underlying5
 a5 := Tryz.isAgg5
 z5 := Tryz.sizeOf5
 v5 := Tryz.zeroValue5
 t9 := Tryz.underlying9
 a9 := Tryz.isAgg9
 z9 := Tryz.sizeOf9
 v9 := Tryz.zeroValue9
 t46 := Tryz.underlying144
 a46 := Tryz.isAgg144
 z46 := Tryz.sizeOf144
 v46 := Tryz.zeroValue144
 t53 := Tryz.underlying49
 a53 := Tryz.isAgg49
 z53 := Tryz.sizeOf49
 v53 := Tryz.zeroValue49
 t212 := Tryz.underlying214
 a212 := Tryz.isAgg214
 z212 := Tryz.sizeOf214
 v212 := Tryz.zeroValue214
 g17 := by kernel_rfl
 i0 := by kernel_rfl
 i3 := by kernel_rfl
 i4 := by kernel_rfl
 i5 := by kernel_rfl
 i9 := by kernel_rfl
 i46 := by kernel_rfl
 i53 := by kernel_rfl
 i212 := by kernel_rfl
 m17 := by kernel_rfl }
open Go.Lib in
/-- internal/strconv.numDigits, at a d that is not 0: THE NUMBER OF d's DECIMAL DIGITS. The world is as it was. (LAID: no walk: one application.) -/
theorem Tryz.internal_strconv_numDigits (u : Nat) (h1 : 1 ≤ u) (h2 : u < 18446744073709551616) (w : World) (htab : Lib.TabIs Tryz.prog w "internal/strconv.uint64pow10" .u64 Lib.pow10Tab) :
  Calls Tryz.prog 157 #[.int .u64 u] w fun e w' => e = .returned (.int .i64 (Lib.nDigits u)) ∧ w' = w := Any.internal_strconv_numDigits Tryz.laysM284 u h1 h2 w htab
def Tryz.lays285_ren : Go.Shelf.Ren := ⟨fun | 285 => 158 | n => n, fun | 37 => 22 | 53 => 49 | 3 => 3 | 4 => 4 | 51 => 147 | 9 => 9 | 5 => 5 | 0 => 0 | n => n, fun | n => n⟩
theorem Tryz.lays285 : Go.Proofs.Lays.n285 Tryz.prog Tryz.lays285_ren := {
 mixed := by kernel_rfl
 f285 := Tryz.func158.trans (congrArg some (by kernel_rfl))
 t0 := Tryz.underlying0
 a0 := Tryz.isAgg0
 z0 := Tryz.sizeOf0
 v0 := Tryz.zeroValue0
 t3 := Tryz.underlying3
 a3 := Tryz.isAgg3
 z3 := Tryz.sizeOf3
 v3 := Tryz.zeroValue3
 t4 := Tryz.underlying4
 a4 := Tryz.isAgg4
 z4 := Tryz.sizeOf4
 v4 := Tryz.zeroValue4
 t5 := Tryz.underlying5
 a5 := Tryz.isAgg5
 z5 := Tryz.sizeOf5
 v5 := Tryz.zeroValue5
 t9 := Tryz.underlying9
 a9 := Tryz.isAgg9
 z9 := Tryz.sizeOf9
 v9 := Tryz.zeroValue9
 t37 := Tryz.underlying22
 a37 := Tryz.isAgg22
 z37 := Tryz.sizeOf22
 v37 := Tryz.zeroValue22
 t51 := Tryz.underlying147
 a51 := Tryz.isAgg147
 z51 := Tryz.sizeOf147
 v51 := Tryz.zeroValue147
 t53 := Tryz.underlying49
 a53 := Tryz.isAgg49
 z53 := Tryz.sizeOf49
 v53 := Tryz.zeroValue49 }
open Go.RowKit Go.Sort Go.Lib in
/-- internal/strconv.formatBase10: "formatBase10 formats the decimal representation of u into a. The caller is responsible for ensuring that a is big enough to hold u. If a is too big, leading zeros will be filled in as needed.": THE ROW HOLDS u's DIGITS ('FmtInv .. 0 ..': every place t holds 'dg u (len - 1 - t)'); all else is as it was but for the count of draws. (LAID: no walk: one application.) -/
theorem Tryz.internal_strconv_formatBase10 (blk off cap : Nat) (u : Nat) (d : Array UInt8) (w : World) (hH : Holds (fun (b : UInt8) => Value.int .u8 (b.toNat : Int)) w blk off d) (hu : u < 10 ^ d.size) (hu64 : u < 18446744073709551616) (hsz : d.size < 4611686018427387904) :
  Calls Tryz.prog 158 #[.slice (some ⟨blk, off, none⟩) d.size cap, .int .u64 u] w fun e w' =>
   e = .returned (.tuple #[]) ∧ ∃ (n v' : Nat) (dk : Array UInt8), w' = (putRow (fun (b : UInt8) => Value.int .u8 (b.toNat : Int)) w blk off dk).drewN n ∧ FmtInv d.size u 0 v' dk := Any.internal_strconv_formatBase10 Tryz.lays285 blk off cap u d w hH hu hu64 hsz
def Tryz.laysM171_ren : Go.Shelf.Ren := ⟨fun | 171 => 118 | 243 => 174 | 246 => 111 | 283 => 156 | 284 => 157 | 285 => 158 | 286 => 159 | 129 => 191 | 317 => 190 | 318 => 192 | 319 => 193 | 320 => 194 | 337 => 216 | 338 => 217 | n => n, fun | 3 => 3 | 9 => 9 | 2 => 2 | 4 => 4 | 171 => 184 | 0 => 0 | 53 => 49 | 37 => 22 | 5 => 5 | 173 => 187 | 212 => 214 | 51 => 147 | 20 => 20 | 213 => 215 | 46 => 144 | 232 => 236 | 233 => 237 | n => n, fun | 17 => 0 | 18 => 2 | 19 => 3 | n => n⟩
theorem Tryz.laysM171 : Go.Proofs.LaysM.n171 Tryz.prog Tryz.laysM171_ren := {
 mixed := by kernel_rfl
 f129 := Tryz.func191.trans (congrArg some (by kernel_rfl))
 f171 := Tryz.func118.trans (congrArg some (by kernel_rfl))
 f243 := Tryz.func174.trans (congrArg some (by kernel_rfl))
 f246 := Tryz.func111.trans (congrArg some (by kernel_rfl))
 f283 := Tryz.func156.trans (congrArg some (by kernel_rfl))
 f284 := Tryz.func157.trans (congrArg some (by kernel_rfl))
 f285 := Tryz.func158.trans (congrArg some (by kernel_rfl))
 f286 := Tryz.func159.trans (congrArg some (by kernel_rfl))
 f317 := Tryz.func190.trans (congrArg some (by kernel_rfl))
 f318 := Tryz.func192.trans (congrArg some (by kernel_rfl))
 f319 := Tryz.func193.trans (congrArg some (by kernel_rfl))
 f320 := Tryz.func194.trans (congrArg some (by kernel_rfl))
 f337 := Tryz.func216.trans (congrArg some (by kernel_rfl))
 f338 := Tryz.func217.trans (congrArg some (by kernel_rfl))
 t0 := Tryz.underlying0
 a0 := Tryz.isAgg0
 z0 := Tryz.sizeOf0
 v0 := Tryz.zeroValue0
 t2 := Tryz.underlying2
 a2 := Tryz.isAgg2
 z2 := Tryz.sizeOf2
 v2 := Tryz.zeroValue2
 t3 := Tryz.underlying3
 a3 := Tryz.isAgg3
 z3 := Tryz.sizeOf3
 v3 := Tryz.zeroValue3
 t4 := Tryz.underlying4
 a4 := Tryz.isAgg4
 z4 := Tryz.sizeOf4
 v4 := Tryz.zeroValue4
 t5 := Tryz.underlying5
 a5 := Tryz.isAgg5
 z5 := Tryz.sizeOf5
 v5 := Tryz.zeroValue5
 t9 := Tryz.underlying9
 a9 := Tryz.isAgg9
 z9 := Tryz.sizeOf9
 v9 := Tryz.zeroValue9
 t20 := Tryz.underlying20
 a20 := Tryz.isAgg20
 z20 := Tryz.sizeOf20
 v20 := Tryz.zeroValue20
 t37 := Tryz.underlying22
 a37 := Tryz.isAgg22
 z37 := Tryz.sizeOf22
 v37 := Tryz.zeroValue22
 t46 := Tryz.underlying144
 a46 := Tryz.isAgg144
 z46 := Tryz.sizeOf144
 v46 := Tryz.zeroValue144
 t51 := Tryz.underlying147
 a51 := Tryz.isAgg147
 z51 := Tryz.sizeOf147
 v51 := Tryz.zeroValue147
 t53 := Tryz.underlying49
 a53 := Tryz.isAgg49
 z53 := Tryz.sizeOf49
 v53 := Tryz.zeroValue49
 t171 := Tryz.underlying184
 a171 := Tryz.isAgg184
 z171 := Tryz.sizeOf184
 v171 := Tryz.zeroValue184
 t173 := Tryz.underlying187
 a173 := Tryz.isAgg187
 z173 := Tryz.sizeOf187
 v173 := Tryz.zeroValue187
 t212 := Tryz.underlying214
 a212 := Tryz.isAgg214
 z212 := Tryz.sizeOf214
 v212 := Tryz.zeroValue214
 t213 := Tryz.underlying215
 a213 := Tryz.isAgg215
 z213 := Tryz.sizeOf215
 t232 := Tryz.underlying236
 a232 := Tryz.isAgg236
 z232 := Tryz.sizeOf236
 v232 := Tryz.zeroValue236
 t233 := Tryz.underlying237
 a233 := Tryz.isAgg237
 z233 := Tryz.sizeOf237
 v233 := Tryz.zeroValue237
 g17 := by kernel_rfl
 g18 := by kernel_rfl
 g19 := by kernel_rfl
 i0 := by kernel_rfl
 i2 := by kernel_rfl
 i3 := by kernel_rfl
 i4 := by kernel_rfl
 i5 := by kernel_rfl
 i9 := by kernel_rfl
 i20 := by kernel_rfl
 i37 := by kernel_rfl
 i46 := by kernel_rfl
 i51 := by kernel_rfl
 i53 := by kernel_rfl
 i171 := by kernel_rfl
 i173 := by kernel_rfl
 i212 := by kernel_rfl
 i232 := by kernel_rfl
 i233 := by kernel_rfl
 m17 := by kernel_rfl
 m18 := by kernel_rfl
 m19 := by kernel_rfl }
open Go.RowKit Go.Sort Go.Lib in
/-- strconv.Itoa: "Itoa is equivalent to FormatInt(int64(i), 10).": i's DECIMAL NUMERAL ('Lib.itoa': a '-' where i is negative, then the digits), FOR EVERY int. The world behind the call: the world before it, new blocks behind the heap (the library's 'var a [24]byte'), draws. (LAID: no walk: one application.) -/
theorem Tryz.strconv_Itoa (n : Int) (h0 : -9223372036854775808 ≤ n) (h1 : n ≤ 9223372036854775807) (w : World) (htab : Lib.TabIs Tryz.prog w "internal/strconv.uint64pow10" .u64 Lib.pow10Tab) :
  Calls Tryz.prog 118 #[.int .i64 n] w fun e w' => e = .returned (.string ⟨(Lib.itoa n).toArray⟩) ∧ ∃ k os, w' = grow (w.drewN k) os := Any.strconv_Itoa Tryz.laysM171 n h0 h1 w htab
def Tryz.lays143_ren : Go.Shelf.Ren := ⟨fun | 143 => 123 | 219 => 177 | 217 => 135 | 225 => 204 | 224 => 205 | 267 => 206 | 266 => 180 | 314 => 222 | n => n, fun | 9 => 9 | 3 => 3 | 4 => 4 | 5 => 5 | 46 => 144 | 146 => 229 | 51 => 147 | n => n, fun | 1 => 1 | n => n⟩
theorem Tryz.lays143 : Go.Proofs.Lays.n143 Tryz.prog Tryz.lays143_ren := {
 mixed := by kernel_rfl
 f143 := Tryz.func123.trans (congrArg some (by kernel_rfl))
 f217 := Tryz.func135.trans (congrArg some (by kernel_rfl))
 f219 := Tryz.func177.trans (congrArg some (by kernel_rfl))
 f224 := Tryz.func205.trans (congrArg some (by kernel_rfl))
 f225 := Tryz.func204.trans (congrArg some (by kernel_rfl))
 f266 := Tryz.func180.trans (congrArg some (by kernel_rfl))
 f267 := Tryz.func206.trans (congrArg some (by kernel_rfl))
 f314 := Tryz.func222.trans (congrArg some (by kernel_rfl))
 t3 := Tryz.underlying3
 a3 := Tryz.isAgg3
 z3 := Tryz.sizeOf3
 v3 := Tryz.zeroValue3
 t4 := Tryz.underlying4
 a4 := Tryz.isAgg4
 z4 := Tryz.sizeOf4
 v4 := Tryz.zeroValue4
 t5 := Tryz.underlying5
 a5 := Tryz.isAgg5
 z5 := Tryz.sizeOf5
 v5 := Tryz.zeroValue5
 t9 := Tryz.underlying9
 a9 := Tryz.isAgg9
 z9 := Tryz.sizeOf9
 v9 := Tryz.zeroValue9
 t46 := Tryz.underlying144
 a46 := Tryz.isAgg144
 z46 := Tryz.sizeOf144
 v46 := Tryz.zeroValue144
 t51 := Tryz.underlying147
 a51 := Tryz.isAgg147
 z51 := Tryz.sizeOf147
 v51 := Tryz.zeroValue147
 t146 := Tryz.underlying229
 a146 := Tryz.isAgg229
 z146 := Tryz.sizeOf229
 v146 := Tryz.zeroValue229
 g1 := by kernel_rfl }
open Go.RowKit Go.Lib in
/-- strings.Index: "Index returns the index of the first instance of substr in s, or -1 if substr is not present in s.": IT RETURNS 'Lib.index s substr'; the world is as it was. (LAID: no walk: one application.) -/
theorem Tryz.strings_Index (s sub : ByteArray) (m : Int) (w : World) (hs : s.size < 4294967281) (hm : w.cell? ⟨1, 0, none⟩ = some (.int .i64 m)) :
  Calls Tryz.prog 123 #[.string s, .string sub] w fun e w' => e = .returned (.int .i64 (Lib.index s.data.toList sub.data.toList)) ∧ w' = w := Any.strings_Index Tryz.lays143 s sub m w hs hm
def Tryz.lays144_ren : Go.Shelf.Ren := ⟨fun | 144 => 57 | 143 => 123 | 219 => 177 | 217 => 135 | 225 => 204 | 224 => 205 | 267 => 206 | 266 => 180 | 314 => 222 | n => n, fun | 9 => 9 | 4 => 4 | 3 => 3 | 5 => 5 | 46 => 144 | 146 => 229 | 51 => 147 | n => n, fun | 1 => 1 | n => n⟩
theorem Tryz.lays144 : Go.Proofs.Lays.n144 Tryz.prog Tryz.lays144_ren := {
 mixed := by kernel_rfl
 f143 := Tryz.func123.trans (congrArg some (by kernel_rfl))
 f144 := Tryz.func57.trans (congrArg some (by kernel_rfl))
 f217 := Tryz.func135.trans (congrArg some (by kernel_rfl))
 f219 := Tryz.func177.trans (congrArg some (by kernel_rfl))
 f224 := Tryz.func205.trans (congrArg some (by kernel_rfl))
 f225 := Tryz.func204.trans (congrArg some (by kernel_rfl))
 f266 := Tryz.func180.trans (congrArg some (by kernel_rfl))
 f267 := Tryz.func206.trans (congrArg some (by kernel_rfl))
 f314 := Tryz.func222.trans (congrArg some (by kernel_rfl))
 t3 := Tryz.underlying3
 a3 := Tryz.isAgg3
 z3 := Tryz.sizeOf3
 v3 := Tryz.zeroValue3
 t4 := Tryz.underlying4
 a4 := Tryz.isAgg4
 z4 := Tryz.sizeOf4
 v4 := Tryz.zeroValue4
 t5 := Tryz.underlying5
 a5 := Tryz.isAgg5
 z5 := Tryz.sizeOf5
 v5 := Tryz.zeroValue5
 t9 := Tryz.underlying9
 a9 := Tryz.isAgg9
 z9 := Tryz.sizeOf9
 v9 := Tryz.zeroValue9
 t46 := Tryz.underlying144
 a46 := Tryz.isAgg144
 z46 := Tryz.sizeOf144
 v46 := Tryz.zeroValue144
 t51 := Tryz.underlying147
 a51 := Tryz.isAgg147
 z51 := Tryz.sizeOf147
 v51 := Tryz.zeroValue147
 t146 := Tryz.underlying229
 a146 := Tryz.isAgg229
 z146 := Tryz.sizeOf229
 v146 := Tryz.zeroValue229
 g1 := by kernel_rfl }
open Go.RowKit Go.Lib in
/-- strings.Contains: "Contains reports whether substr is within s.": IT RETURNS 'Lib.contains s substr'; the world is as it was. (LAID: no walk: one application.) -/
theorem Tryz.strings_Contains (s sub : ByteArray) (m : Int) (w : World) (hs : s.size < 4294967281) (hm : w.cell? ⟨1, 0, none⟩ = some (.int .i64 m)) :
  Calls Tryz.prog 57 #[.string s, .string sub] w fun e w' => e = .returned (.bool (Lib.contains s.data.toList sub.data.toList)) ∧ w' = w := Any.strings_Contains Tryz.lays144 s sub m w hs hm
def Tryz.lays100_ren : Go.Shelf.Ren := ⟨fun | 100 => 138 | 207 => 181 | n => n, fun | 9 => 9 | 4 => 4 | 3 => 3 | n => n, fun | n => n⟩
theorem Tryz.lays100 : Go.Proofs.Lays.n100 Tryz.prog Tryz.lays100_ren := {
 mixed := by kernel_rfl
 f100 := Tryz.func138.trans (congrArg some (by kernel_rfl))
 f207 := Tryz.func181.trans (congrArg some (by kernel_rfl))
 t3 := Tryz.underlying3
 a3 := Tryz.isAgg3
 z3 := Tryz.sizeOf3
 v3 := Tryz.zeroValue3
 t4 := Tryz.underlying4
 a4 := Tryz.isAgg4
 z4 := Tryz.sizeOf4
 v4 := Tryz.zeroValue4
 t9 := Tryz.underlying9
 a9 := Tryz.isAgg9
 z9 := Tryz.sizeOf9
 v9 := Tryz.zeroValue9 }
open Go.RowKit Go.Lib in
/-- strings.HasSuffix: "HasSuffix reports whether the string s ends with suffix.": IT RETURNS 'Lib.hasSuffix s suffix'; the world is as it was. ('hs': no Go string is longer: a caller has it of every string that it was handed.) (LAID: no walk: one application.) -/
theorem Tryz.strings_HasSuffix (s p : ByteArray) (w : World) (hs : s.size ≤ 9223372036854775807) :
  Calls Tryz.prog 138 #[.string s, .string p] w fun e w' => e = .returned (.bool (Lib.hasSuffix s.data.toList p.data.toList)) ∧ w' = w := Any.strings_HasSuffix Tryz.lays100 s p w hs
end Go.Proofs
namespace Go.Proofs
open Go.Shelf Go.RowKit Go.Sort Go.Lib
set_option maxRecDepth 100000 in
theorem Tryz.internal_FormatUint_10 (u : Nat) (hu64 : u < 18446744073709551616) (w : World)
  (htab : Lib.TabIs Tryz.prog w "internal/strconv.uint64pow10" .u64 Lib.pow10Tab) :
  Calls Tryz.prog 197 #[.int .u64 u, .int .i64 10] w fun e w' => e = .returned (.string ⟨(Lib.decDigits u).toArray⟩) ∧ ∃ k os, w' = grow (w.drewN k) os := by
 by_cases hs : u < 100
 ·have h100 : (u : Int) < 100 := by omega
  have hw : IntKind.i64.wrap (u : Int) = (u : Int) := by rw [IntKind.wrap_i64]; omega
  go_enter Tryz.func197, Tryz.ntmps197
  go_wp2_with (go_at_call 156; refine (Tryz.internal_strconv_small u hs _).mono ?_; rintro e w' ⟨rfl, rfl⟩)
  go_ret
  refine ⟨rfl, 0, #[], by simp [World.drewN_zero]⟩
 ·have h100 : ¬ (u : Int) < 100 := by omega
  have hu1 : 1 ≤ u := by omega
  have hnd20 : Lib.nDigits u ≤ 20 := by have := Lib.numDigits_eq u hu1 hu64; split at this <;> omega
  have hb3 : Lib.nDigits u ≤ 24 := by omega
  have hal : Tryz.prog.arrayLen 184 = 24 := by simp [Program.arrayLen, Tryz.underlying184]
  have hsl1 : ∀ W, (Instr.sliceAt 184 (.pointer (some ⟨w.heap.size, 0, none⟩)) none (some (.int .i64 (Lib.nDigits u : Int))) none).run Tryz.prog W = .ok (.slice (some ⟨w.heap.size, 0, none⟩) (Lib.nDigits u) 24) W := fun W => by
   rw [run_sliceAt_array_h W 184 ⟨w.heap.size, 0, none⟩ (by simp [Program.arrayLen, Program.elem, Tryz.underlying184]) .i64 (Lib.nDigits u : Int) (by omega) (by rw [hal]; omega)]
   go_simp
  have hH0 := Lib.holds_zero0 w 184 (Lib.nDigits u) (by omega)
  have hfmt := Tryz.internal_strconv_formatBase10 w.heap.size 0 24 u (Array.replicate (Lib.nDigits u) 0) (w.alloc (.cells Lib.zeros24 184)) hH0 (by rw [Array.size_replicate]; exact Lib.lt_pow_nDigits u) hu64 (by rw [Array.size_replicate]; omega)
  rw [Array.size_replicate] at hfmt
  have HH0 := Lib.hid hH0
  clear hH0 hal
  go_enter Tryz.func197, Tryz.ntmps197
  go_wp2_with (go_at_call 157; refine (Tryz.internal_strconv_numDigits u hu1 hu64 _ (Lib.tabIs_alloc htab _)).mono ?_; rintro e w' ⟨rfl, rfl⟩)
  go_at_call 158
  refine hfmt.mono ?_
  rintro e w' ⟨rfl, k, v', dk, rfl, hF⟩
  have hcv : (convert 22 9 (.slice (some ⟨w.heap.size, 0, none⟩) (Lib.nDigits u) 24)).run Tryz.prog ((putRow (fun (b : UInt8) => Value.int .u8 (b.toNat : Int)) (w.alloc (.cells Lib.zeros24 184)) w.heap.size 0 dk).drewN k) = .ok (.string ⟨(Lib.decDigits u).toArray⟩) ((putRow (fun (b : UInt8) => Value.int .u8 (b.toNat : Int)) (w.alloc (.cells Lib.zeros24 184)) w.heap.size 0 dk).drewN k) := by
   have h := run_convert_bytes_back (P := Tryz.prog) ((putRow (fun (b : UInt8) => Value.int .u8 (b.toNat : Int)) (w.alloc (.cells Lib.zeros24 184)) w.heap.size 0 dk).drewN k) 22 9 5 ⟨w.heap.size, 0, none⟩ 24 (Lib.decDigits u) Tryz.underlying22 Tryz.underlying5 Tryz.underlying9 (fun j hj => by
    rw [Lib.row_is_numeral hF j hj, Lib.add_plain, World.cell?_drewN]
    exact cell?_putRow (fun (b : UInt8) => Value.int .u8 (b.toNat : Int)) _ w.heap.size 0 _ dk HH0.out (by rw [hF.size, Array.size_replicate]) j (by rw [hF.size]; rw [Lib.decDigits_length] at hj; exact hj))
   rw [Lib.decDigits_length] at h
   exact h
  go_wp2
  go_ret
  refine ⟨rfl, k, ?_⟩
  rw [alloc_eq_grow]
  obtain ⟨os', _, e⟩ := putRow_grow_new (fun (b : UInt8) => Value.int .u8 (b.toNat : Int)) w #[.cells Lib.zeros24 184] w.heap.size 0 dk (Nat.le_refl _)
  exact ⟨os', by rw [e]; rfl⟩
theorem Tryz.strconv_FormatUint_10 (u : Nat) (hu64 : u < 18446744073709551616) (w : World)
  (htab : Lib.TabIs Tryz.prog w "internal/strconv.uint64pow10" .u64 Lib.pow10Tab) :
  Calls Tryz.prog 167 #[.int .u64 u, .int .i64 10] w fun e w' => e = .returned (.string ⟨(Lib.decDigits u).toArray⟩) ∧ ∃ k os, w' = grow (w.drewN k) os := by
 go_enter Tryz.func167, Tryz.ntmps167
 go_wp2_with (go_at_call 197; refine (Tryz.internal_FormatUint_10 u hu64 _ htab).mono ?_; rintro e w' ⟨rfl, k, os, rfl⟩)
 go_ret
 exact ⟨rfl, k, os, rfl⟩
end Go.Proofs
namespace Go.Dn.Dec
open Go.Proofs
theorem unInts_ints (a : List Int) : unInts .u32 (ints .u32 a) = some a := by
 induction a with
 | nil => rfl
 | cons z a ih =>
  rw [ints_cons, unInts, if_pos rfl, ih]; rfl
theorem all_u32 {a : List Int} (h : U32 a) : (a.all fun z => decide (0 ≤ z) && decide (z < 4294967296)) = true := by
 rw [List.all_eq_true]
 intro z hz
 have := h z hz
 simp [this.1, this.2]
theorem sub_ws (b c : Bool) (x y : Nat) (hx : Fits x) (hy : Fits y) : rk Tryz.prog pol (Task.call 218 [V.d (D.l b (ws x)), V.d (D.l c (ws y))] []) = some (subR x y, []) := by
 rw [ext_call (g := subExt) rfl]
 have lx := hx.len
 have ly := hy.len
 simp only [subExt, ws, unInts_ints]
 rw [if_pos ⟨all_u32 (limbs_u32 x), all_u32 (limbs_u32 y), by omega, by omega⟩, val_limbs, val_limbs]
theorem limbs_get (n k : Nat) (h : k < (limbs n).length) : (limbs n)[k]? = some ((n / W ^ k % W : Nat) : Int) := by
 induction k generalizing n with
 | zero =>
  by_cases h0 : n = 0
  ·subst h0; rw [limbs_zero] at h; simp at h
  ·rw [limbs_pos h0]; simp
 | succ k ih =>
  by_cases h0 : n = 0
  ·subst h0; rw [limbs_zero] at h; simp at h
  ·rw [limbs_pos h0] at h ⊢
   rw [List.getElem?_cons_succ, ih _ (by simpa using h), Nat.pow_succ, Nat.mul_comm (W ^ k), Nat.div_div_eq_div_mul]
theorem fdiv_nat (a b : Nat) : (a : Int).fdiv (b : Int) = ((a / b : Nat) : Int) := by
 rw [Int.fdiv_eq_ediv_of_nonneg _ (by omega)]; rfl
theorem and_one {a : Nat} (h : a < 4294967296) : (BitVec.ofInt 32 (a : Int) &&& BitVec.ofInt 32 1).toNat = a % 2 := by
 rw [BitVec.toNat_and, BitVec.ofInt_natCast, BitVec.toNat_ofNat, Nat.mod_eq_of_lt (by simpa using h)]
 exact Nat.and_one_is_mod a
theorem bit_word (x i : Nat) : x / W ^ (i / 32) % W / 2 ^ (i % 32) % 2 = x / 2 ^ i % 2 := by
 have hk : i % 32 < 32 := Nat.mod_lt _ (by decide)
 have e : W = 2 ^ (i % 32) * 2 ^ (32 - i % 32) := by rw [← Nat.pow_add, show i % 32 + (32 - i % 32) = 32 by omega]; rfl
 rw [show x / W ^ (i / 32) % W = x / W ^ (i / 32) % (2 ^ (i % 32) * 2 ^ (32 - i % 32)) by rw [← e]]
 rw [Nat.mod_mul_right_div_self, Nat.mod_mod_of_dvd, Nat.div_div_eq_div_mul, W_pow', ← Nat.pow_add, Nat.div_add_mod]
 exact ⟨2 ^ (32 - i % 32 - 1), by rw [← Nat.pow_add_one']; congr 1; omega⟩
def dT (bx by_ : Bool) (x y n : Nat) (br : Bool) (r : Nat) (i : Int) (fl : List (Nat × Nat)) (qs : List Int) : Task :=
 Task.at_ 198 0 [false, true, false, true, true, true, true] (sv 64 [(0, V.d (D.l bx (ws x))), (1, V.d (D.l by_ (ws y))), (4, V.m 0 0 n), (5, V.d (D.l br (ws r))), (7, V.d (D.i .i64 i))]) fl [Ob.cells (cellsOf qs) []]
def dM (bx by_ : Bool) (x y n : Nat) (br : Bool) (r : Nat) (i : Int) (qs : List Int) : Task :=
 Task.at_ 198 0 [true, true, false, false, true, false, false, true, false, true, true, true, true] (sv 64 [(0, V.d (D.l bx (ws x))), (1, V.d (D.l by_ (ws y))), (4, V.m 0 0 n), (5, V.d (D.l br (ws r))), (7, V.d (D.i .i64 i))]) [] [Ob.cells (cellsOf qs) []]
set_option exponentiation.threshold 400000 in
theorem fits_two {r : Nat} (h : r < 2 ^ 300000) : Fits r := by
 unfold Fits
 rw [W_pow']
 exact Nat.lt_of_lt_of_le h (Nat.pow_le_pow_right (by decide) (by decide))
theorem fits_1 : Fits 1 := fits_pow (n := 0) (by decide)
theorem div_head (bx by_ br : Bool) (x y n r i : Nat) (fl : List (Nat × Nat)) (hfl : fl = [(5, 1)] ∨ fl = []) (qs : List Int) (hx : Fits x) (hi : i < 32 * (limbs x).length) (hr : Fits r) (hr2 : Fits (r * 2)) :
  rk Tryz.prog pol (dT bx by_ x y n br r (i : Int) fl qs) = rk Tryz.prog pol (dM bx by_ x y n (nb (r * 2 + x / 2 ^ i % 2)) (r * 2 + x / 2 ^ i % 2) (i : Int) qs) := by
 have lx := hx.len
 have s1 := shl_ws br r 1 hr (by decide)
 rw [Nat.pow_one] at s1
 have hc : rk Tryz.prog pol (Task.call 161 [V.d (D.l br (ws r)), V.d (D.i .i64 1)] []) = some (.d (.l (nb (r * 2)) (ws (r * 2))), []) := s1
 have hof : rk Tryz.prog pol (Task.call 160 [V.d (D.i .u64 1)] []) = some (.d (.l (nb 1) (ws 1)), []) := of_ws 1 (by decide)
 have hadd := add_ws (nb (r * 2)) (nb 1) (r * 2) 1 hr2 fits_1
 have hq : i / 32 < (limbs x).length := by omega
 have hg : (ws x)[i / 32]? = some (D.i .u32 ((x / W ^ (i / 32) % W : Nat) : Int)) := by rw [ws, get_ints, limbs_get x _ hq]; rfl
 have ha : x / W ^ (i / 32) % W < 4294967296 := Nat.mod_lt _ W_pos
 have hbw := bit_word x i
 generalize x / W ^ (i / 32) % W = a at hg ha hbw
 have ht1 : (i : Int).tdiv 32 = ((i / 32 : Nat) : Int) := tdiv_nat i 32
 have ht2 : (i : Int).tmod 32 = ((i % 32 : Nat) : Int) := tmod_nat i 32
 have hw : IntKind.i64.wrap ((i / 32 : Nat) : Int) = ((i / 32 : Nat) : Int) := by rw [wrap_i64] <;> omega
 have hmin : min (i % 32) 32 = i % 32 := by omega
 have hp : (0 : Int) ≤ ((i % 32 : Nat) : Int) := by omega
 have hi0 : (i : Int) ≥ 0 := by omega
 have hbit : IntKind.u32.wrap (((BitVec.ofInt IntKind.u32.bits ((a : Int).fdiv (2 ^ (i % 32))) &&& BitVec.ofInt IntKind.u32.bits 1).toNat : Nat) : Int) = ((x / 2 ^ i % 2 : Nat) : Int) := by
  have e : (2 : Int) ^ (i % 32) = ((2 ^ (i % 32) : Nat) : Int) := by simp
  have h32 : a / 2 ^ (i % 32) < 4294967296 := Nat.lt_of_le_of_lt (Nat.div_le_self _ _) ha
  have := and_one h32
  rw [e, fdiv_nat]
  have h2 : (BitVec.ofInt IntKind.u32.bits ((a / 2 ^ (i % 32) : Nat) : Int) &&& BitVec.ofInt IntKind.u32.bits 1).toNat = a / 2 ^ (i % 32) % 2 := this
  rw [h2, hbw, u32_wrap]; omega
 rcases hfl with rfl | rfl
 all_goals
  unfold dT
  first | rw [f74_at175] | rw [f74_at175_1]
  simp only [interp_brB, decide_eq_true hi0, if_true, interp_call', hc, Option.bind_some, List.isEmpty_nil, interp_ift', asD_d, asL_l, ht1, ht2, hw, getI_nat, hg, interp_ob', width_i, beq_self_eq_true, Int.toNat_natCast, cells_i, List.getElem?_cons_zero, interp_asI, decide_eq_true hp, hmin, hbit]
  rcases Nat.mod_two_eq_zero_or_one (x / 2 ^ i) with h | h
  ·rw [h]
   have h0 : ((((0 : Nat) : Int) != 0) = true) = False := by simp
   simp only [h0, if_false, interp_ret, Nat.add_zero]
   unfold dM
   generalize rk Tryz.prog pol (Task.at_ 198 0 [true, true, false, false, true, false, false, true, false, true, true, true, true] _ _ _) = R
   cases R <;> rfl
  ·rw [h]
   have h0 : ((((1 : Nat) : Int) != 0) = true) = True := by simp
   simp only [h0, if_true, hof, hadd, Option.bind_some, List.isEmpty_nil, asD_d, asL_l, interp_ift', interp_call_ret, interp_call', interp_ret]
   unfold dM
   generalize rk Tryz.prog pol (Task.at_ 198 0 [true, true, false, false, true, false, false, true, false, true, true, true, true] _ _ _) = R
   cases R <;> rfl
theorem or32 {z k : Nat} (hz : z < 4294967296) (hk : k < 32) (hd : z % 2 ^ (k + 1) = 0) : IntKind.u32.wrap (((BitVec.ofInt IntKind.u32.bits (z : Int) ||| BitVec.ofInt IntKind.u32.bits (IntKind.u32.wrap (1 * 2 ^ k))).toNat : Nat) : Int) = ((z + 2 ^ k : Nat) : Int) ∧ z + 2 ^ k < 4294967296 := by
 have h2 : 2 ^ k ≤ 2147483648 := Nat.le_trans (Nat.pow_le_pow_right (by decide) (show k ≤ 31 by omega)) (by decide)
 obtain ⟨t, ht⟩ := Nat.dvd_of_mod_eq_zero hd
 have hlt : z + 2 ^ k < 4294967296 := by
  have hW : 4294967296 = 2 ^ (k + 1) * 2 ^ (31 - k) := by rw [← Nat.pow_add, show k + 1 + (31 - k) = 32 by omega]
  have h3 : t < 2 ^ (31 - k) := by
   rw [ht, hW] at hz; exact Nat.lt_of_mul_lt_mul_left hz
  have h4 : 2 ^ (k + 1) * (t + 1) ≤ 4294967296 := by rw [hW]; exact Nat.mul_le_mul_left _ h3
  have h5 : 2 ^ (k + 1) = 2 * 2 ^ k := by rw [Nat.pow_succ, Nat.mul_comm]
  have h6 := Nat.pow_pos (n := k) (show 0 < 2 by decide)
  rw [Nat.mul_add, Nat.mul_one, ← ht] at h4
  omega
 refine ⟨?_, hlt⟩
 have e : (1 : Int) * 2 ^ k = ((2 ^ k : Nat) : Int) := by simp
 rw [e, u32_wrap (((2 ^ k : Nat)) : Int), mod_32 (by omega)]
 have h3 : (BitVec.ofInt IntKind.u32.bits (z : Int) ||| BitVec.ofInt IntKind.u32.bits ((2 ^ k : Nat) : Int)).toNat = z ||| 2 ^ k := by
  show (BitVec.ofInt 32 (z : Int) ||| BitVec.ofInt 32 ((2 ^ k : Nat) : Int)).toNat = _
  rw [BitVec.toNat_or, BitVec.ofInt_natCast, BitVec.ofInt_natCast, BitVec.toNat_ofNat, BitVec.toNat_ofNat, Nat.mod_eq_of_lt (by simpa using hz), Nat.mod_eq_of_lt (by omega)]
 have h4 : z ||| 2 ^ k = z + 2 ^ k := by
  rw [ht, ← Nat.two_pow_add_eq_or_of_lt (Nat.pow_lt_pow_right (by decide) (Nat.lt_succ_self k))]
 rw [h3, h4, u32_wrap]; omega
theorem word_of {qs : List Int} (hu : U32 qs) {q : Nat} (hq : q < qs.length) : qs[q] = ((valL qs / W ^ q % W : Nat) : Int) := by
 induction qs generalizing q with
 | nil => simp at hq
 | cons z qs ih =>
  obtain ⟨hz, hu'⟩ := U32.cons.1 hu
  have hzW : z.toNat < W := by unfold W; omega
  cases q with
  | zero => simp only [List.getElem_cons_zero, valL, Nat.pow_zero, Nat.div_one, Nat.add_mul_mod_self_left, Nat.mod_eq_of_lt hzW]; omega
  | succ q =>
   simp only [List.getElem_cons_succ, valL]
   rw [ih hu' (by simpa using hq), Nat.pow_succ, Nat.mul_comm (W ^ q), ← Nat.div_div_eq_div_mul, Nat.add_mul_div_left _ _ W_pos, Nat.div_eq_of_lt hzW, Nat.zero_add]
theorem low_zero {Q q k m : Nat} (hk : k < 32) (h : Q = 2 ^ (32 * q + k + 1) * m) : Q / W ^ q % W % 2 ^ (k + 1) = 0 := by
 rw [Nat.mod_mod_of_dvd _ ⟨2 ^ (31 - k), by rw [← Nat.pow_add, show k + 1 + (31 - k) = 32 by omega]; rfl⟩, h, W_pow', show 32 * q + k + 1 = 32 * q + (k + 1) from rfl, Nat.pow_add, Nat.mul_assoc, Nat.mul_div_cancel_left _ (Nat.pow_pos (by decide)), Nat.mul_mod_right]
theorem div_mid (bx by_ br : Bool) (x y n r i : Nat) (qs : List Int) (hr : Fits r) (hy : Fits y) (hn : n = qs.length) (hi : i < 32 * n) (hn2 : n ≤ 10000) (hu : U32 qs) (m : Nat) (hv : valL qs = 2 ^ (i + 1) * m) :
  (r < y → rk Tryz.prog pol (dM bx by_ x y n br r (i : Int) qs) = rk Tryz.prog pol (dT bx by_ x y n br r ((i : Int) - 1) [] qs)) ∧
  (y ≤ r → ∃ qs', U32 qs' ∧ qs'.length = n ∧ valL qs' = 2 ^ i * (2 * m + 1) ∧ rk Tryz.prog pol (dM bx by_ x y n br r (i : Int) qs) = rk Tryz.prog pol (dT bx by_ x y n (nb (r - y)) (r - y) ((i : Int) - 1) [] qs')) := by
 have hs := sub_ws br by_ r y hr hy
 have hw1 : IntKind.i64.wrap ((i : Int) - 1) = (i : Int) - 1 := by rw [wrap_i64] <;> omega
 constructor
 ·intro h
  unfold dM dT
  rw [f74_at14639]
  rw [subR, if_pos h] at hs
  simp [hs, hw1]
 ·intro h
  have hq : i / 32 < qs.length := by omega
  have hk : i % 32 < 32 := Nat.mod_lt _ (by decide)
  have hwd := word_of hu hq
  have hz : valL qs / W ^ (i / 32) % W < 4294967296 := Nat.mod_lt _ W_pos
  have hlow : valL qs / W ^ (i / 32) % W % 2 ^ (i % 32 + 1) = 0 := low_zero (q := i / 32) (m := m) hk (by rw [Nat.div_add_mod]; exact hv)
  have hval := val_set qs (i / 32) ((valL qs / W ^ (i / 32) % W + 2 ^ (i % 32) : Nat) : Int) hq
  rw [hwd, Int.toNat_natCast, Int.toNat_natCast, Nat.mul_add, W_pow (i / 32) (i % 32), Nat.div_add_mod] at hval
  have hg : qs[i / 32]? = some ((valL qs / W ^ (i / 32) % W : Nat) : Int) := by rw [List.getElem?_eq_getElem hq, hwd]
  generalize valL qs / W ^ (i / 32) % W = z at *
  obtain ⟨hor, hlt⟩ := or32 hz hk hlow
  refine ⟨qs.set (i / 32) ((z + 2 ^ (i % 32) : Nat) : Int), hu.set _ hlt, by simp [hn], ?_, ?_⟩
  ·have : 2 ^ (i + 1) = 2 * 2 ^ i := by rw [Nat.pow_succ, Nat.mul_comm]
   have e : 2 ^ i * (2 * m + 1) = 2 ^ (i + 1) * m + 2 ^ i := by rw [this, Nat.mul_add, Nat.mul_one, ← Nat.mul_assoc, Nat.mul_comm (2 ^ i) 2]
   rw [e]; omega
  ·unfold dM dT
   rw [f74_at14639]
   rw [subR, if_neg (by omega), nl_ws] at hs
   have ht1 : (i : Int).tdiv 32 = ((i / 32 : Nat) : Int) := tdiv_nat i 32
   have ht2 : (i : Int).tmod 32 = ((i % 32 : Nat) : Int) := tmod_nat i 32
   have hw : IntKind.i64.wrap ((i / 32 : Nat) : Int) = ((i / 32 : Nat) : Int) := by rw [wrap_i64] <;> omega
   have hmin : min (i % 32) 32 = i % 32 := by omega
   have hp : (0 : Int) ≤ ((i % 32 : Nat) : Int) := by omega
   have hb1 : (0 : Int) ≤ ((i / 32 : Nat) : Int) ∧ ((i / 32 : Nat) : Int) < (n : Int) := by omega
   have hb2 : i / 32 < (cellsOf qs).length := by rw [cellsOf_len]; exact hq
   simp only [interp_call', hs, Option.bind_some, List.isEmpty_nil, interp_ift', if_true, unT_t, List.length_cons, List.length_nil, Nat.zero_add, Nat.reduceAdd, beq_self_eq_true, List.getD_cons_zero, List.getD_cons_succ, asD_d, asL_l, asB_b, interp_brB, ht1, ht2, hw, decide_eq_true hb1, Int.toNat_natCast, cellsOf_get, hg, Option.map_some, interp_ob', interp_asI, decide_eq_true hp, decide_eq_true hb2, Bool.and_true, hmin, hor, hw1, cells_set, interp_ret]
   generalize rk Tryz.prog pol (Task.at_ 198 0 [false, true, false, true, true, true, true] _ _ _) = R
   cases R <;> rfl
theorem div_loop (bx by_ : Bool) (x y : Nat) (hx : Fits x) (hy : Fits (y * 2)) (hy0 : 0 < y) : ∀ (i : Nat) (br : Bool) (fl : List (Nat × Nat)) (r : Nat) (qs : List Int), (fl = [(5, 1)] ∨ fl = []) → i ≤ 32 * (limbs x).length → r = x / 2 ^ i % y → valL qs = 2 ^ i * (x / 2 ^ i / y) → U32 qs → qs.length = (limbs x).length →
  rk Tryz.prog pol (dT bx by_ x y (limbs x).length br r ((i : Int) - 1) fl qs) = some (.t [.d (.l (nb (x / y)) (ws (x / y))), .d (.l (nb (x % y)) (ws (x % y))), .d (.b true)], []) := by
 have lx := hx.len
 intro i
 induction i with
 | zero =>
  intro br fl r qs hfl hi hr hv hu hl
  rw [Nat.pow_zero, Nat.div_one] at hr
  rw [Nat.pow_zero, Nat.div_one, Nat.one_mul] at hv
  have hcm := cutm_run qs hu (by omega)
  rw [hl, hv, nl_ws] at hcm
  have hc := cut_ws br r (by rw [hr]; exact hx.le (Nat.mod_le _ _))
  rw [hr] at hc
  have h1 : ¬ ((((0 : Nat) : Int) - 1) ≥ 0) := by omega
  unfold dT
  rw [hr]
  rcases hfl with rfl | rfl
  ·rw [f74_at175]
   simp only [interp_brB, decide_eq_false h1, Bool.false_eq_true, if_false, interp_call', hcm, Option.bind_some, unCons_c, unCells_c, beq_self_eq_true, interp_ift', if_true, unNil_n, asD_d, asL_l, hc, List.isEmpty_nil, interp_ret]
  ·rw [f74_at175_1]
   simp only [interp_brB, decide_eq_false h1, Bool.false_eq_true, if_false, interp_call', hcm, Option.bind_some, unCons_c, unCells_c, beq_self_eq_true, interp_ift', if_true, unNil_n, asD_d, asL_l, hc, List.isEmpty_nil, interp_ret]
 | succ i ih =>
  intro br fl r qs hfl hi hr hv hu hl
  have hry : r < y := by rw [hr]; exact Nat.mod_lt _ hy0
  have e : (((i + 1 : Nat) : Int) - 1) = (i : Int) := by omega
  have fr : Fits (r * 2) := hy.le (Nat.mul_le_mul_right _ (by omega))
  have hb := Nat.mod_two_eq_zero_or_one (x / 2 ^ i)
  have fr1 : Fits (r * 2 + x / 2 ^ i % 2) := hy.le (by omega)
  have hX : x / 2 ^ i = 2 * (x / 2 ^ (i + 1)) + x / 2 ^ i % 2 := by
   rw [Nat.pow_succ, ← Nat.div_div_eq_div_mul]
   have := Nat.div_add_mod (x / 2 ^ i) 2
   omega
  have hdm := Nat.div_add_mod (x / 2 ^ (i + 1)) y
  rw [← hr] at hdm
  have hXY : x / 2 ^ i = y * (2 * (x / 2 ^ (i + 1) / y)) + (r * 2 + x / 2 ^ i % 2) := by
   have : y * (2 * (x / 2 ^ (i + 1) / y)) = 2 * (y * (x / 2 ^ (i + 1) / y)) := by rw [Nat.mul_left_comm]
   omega
  rw [e, div_head bx by_ br x y _ r i fl hfl qs hx (by omega) (hr ▸ fr.le (by omega)) fr]
  have hm := div_mid bx by_ (nb (r * 2 + x / 2 ^ i % 2)) x y (limbs x).length (r * 2 + x / 2 ^ i % 2) i qs fr1 (hy.le (by omega)) hl.symm (by omega) lx hu (x / 2 ^ (i + 1) / y) hv
  by_cases hlt : r * 2 + x / 2 ^ i % 2 < y
  ·rw [hm.1 hlt]
   have hq : x / 2 ^ i / y = 2 * (x / 2 ^ (i + 1) / y) := by
    conv => lhs; rw [hXY]
    rw [Nat.mul_add_div hy0, Nat.div_eq_of_lt hlt, Nat.add_zero]
   have hrr : x / 2 ^ i % y = r * 2 + x / 2 ^ i % 2 := by
    conv => lhs; rw [hXY]
    rw [Nat.mul_add_mod, Nat.mod_eq_of_lt hlt]
   refine ih _ [] _ qs (Or.inr rfl) (by omega) hrr.symm ?_ hu hl
   rw [hv, hq, Nat.pow_succ, Nat.mul_assoc]
  ·obtain ⟨qs', u1, u2, u3, u4⟩ := hm.2 (by omega)
   rw [u4]
   have hq : x / 2 ^ i / y = 2 * (x / 2 ^ (i + 1) / y) + 1 := by
    conv => lhs; rw [hXY]
    have hd1 : (r * 2 + x / 2 ^ i % 2) / y = 1 := Nat.div_eq_of_lt_le (by omega) (by omega)
    rw [Nat.mul_add_div hy0, hd1]
   have hrr : x / 2 ^ i % y = r * 2 + x / 2 ^ i % 2 - y := by
    conv => lhs; rw [hXY]
    rw [Nat.mul_add_mod, Nat.mod_eq_sub_mod (by omega), Nat.mod_eq_of_lt (by omega)]
   refine ih _ [] _ qs' (Or.inr rfl) (by omega) hrr.symm ?_ u1 u2
   rw [u3, hq]
theorem div_ws (b c : Bool) (x y : Nat) (hx : Fits x) (hy : Fits (y * 2)) (hy0 : 0 < y) : rk Tryz.prog pol (Task.call 198 [V.d (D.l b (ws x)), V.d (D.l c (ws y))] []) = some (.t [.d (.l (nb (x / y)) (ws (x / y))), .d (.l (nb (x % y)) (ws (x % y))), .d (.b true)], []) := by
 rw [f74]
 have lx := hx.len
 have fy : Fits y := hy.le (by omega)
 have c1 := cut_ws b x hx
 have c2 := cut_ws c y fy
 have cb := bits_ws (nb x) x hx
 have hyl : (limbs y).length ≠ 0 := fun e => by
  have := (limbs_nil_iff y).1 (List.length_eq_zero_iff.1 e); omega
 have h4 : ((((limbs y).length : Nat) : Int) == 0) = false := beq_eq_false_iff_ne.2 (by omega)
 have hbl : blen x ≤ 32 * (limbs x).length := (blen_le_iff _ _).2 (by rw [← W_pow']; exact limbs_lt_len x)
 have hw : IntKind.i64.wrap (((blen x : Nat) : Int) - 1) = ((blen x : Nat) : Int) - 1 := by rw [wrap_i64] <;> omega
 have hle : (((limbs x).length : Nat) : Int) ≤ 4294967296 := by omega
 have hx0 : x / 2 ^ blen x = 0 := Nat.div_eq_of_lt (lt_blen x)
 have h := div_loop (nb x) (nb y) x y hx hy hy0 (blen x) true [(5, 1)] 0 (List.replicate (limbs x).length 0) (Or.inl rfl) hbl (by rw [hx0, Nat.zero_mod]) (by rw [hx0, Nat.zero_div, Nat.mul_zero, val_replicate]) (fun z hz => by rw [List.mem_replicate] at hz; omega) (by simp)
 unfold dT at h
 rw [← cells_replicate, ws_zero] at h
 simp only [interp_call', c1, c2, Option.bind_some, List.isEmpty_nil, interp_ift', if_true, asD_d, asL_l, ws_len, interp_brB, h4, Bool.false_eq_true, if_false, decide_true, decide_eq_true hle, cb, interp_asI, hw, Int.toNat_natCast, interp_ret, h]
end Go.Dn.Dec
namespace Go.Dn.Dec
def cutU (k : Nat) (p : List Bool) : Option (List Nat) :=
 if k = 207 then [(207, [0, 1, 2, 8, 9, 25]), (52687, [0, 2, 8, 9, 40]), (249295, [0, 2, 8, 9, 52]), (1035727, [0, 2, 8, 9, 64]), (991, [0, 1, 2, 8, 9, 83]), (127, [0, 1, 2, 8, 9]), (511, [0, 1, 2, 8, 9, 10]),
  (22527, [1, 8, 9, 10, 11, 12, 13, 99, 100, 101]), (26843135, [1, 8, 9, 10, 11, 12, 13, 15, 99, 100, 101, 106]), (127506431, [1, 8, 9, 10, 11, 12, 13, 15, 99, 100, 101, 112]),
  (530159615, [1, 8, 9, 10, 11, 12, 13, 15, 99, 100, 101, 121]), (469342207, [1, 8, 9, 10, 11, 12, 17, 99, 100, 101, 159]), (28671, [13, 169])].lookup (p.foldl (fun n b => 2 * n + b.toNat) 1) else none
def polU : Pol := { cut := cutU, app := fun k _ _ => if k = 207 then 0 else 2, flg := fun _ _ _ => [], ext := fun _ => none }
end Go.Dn.Dec
namespace Go.Dn.Dec
open Go.Proofs
theorem u122 (s : List UInt8) : rk Tryz.prog polU (.call 207 [vs s, vi 16, vi 64] []) = interp (rk Tryz.prog polU) (brB (s == []) .fail (.call (.at_ 207 0 [true, false, false, true, true, true, true] (sv 172 [(0, vs s), (1, vi 16), (2, vi 64), (8, vb false), (9, vs s), (25, vb true)]) [] []) .ret)) :=
 rk_of (by kernel_rfl)
theorem u133 (c : Int) : rk Tryz.prog polU (.call 223 [.d (.i .u8 c)] []) = interp (rk Tryz.prog polU) (.ret (.d (.i .u8 (IntKind.u8.wrap ((BitVec.ofInt IntKind.u8.bits c ||| BitVec.ofInt IntKind.u8.bits 32).toNat : Int))), [])) :=
 rk_of (by kernel_rfl)
theorem u122_at207 (l_0 : List UInt8) (n_1 n_2 : Int) (b_3 : Bool) (l_4 : List UInt8) (b_5 : Bool) : rk Tryz.prog polU (.at_ 207 0 [true, false, false, true, true, true, true] (sv 172 [(0, vs l_0), (1, vi n_1), (2, vi n_2), (8, vb b_3), (9, vs l_4), (25, vb b_5)]) [] []) = interp (rk Tryz.prog polU) (brB b_5 (brB (n_2 == 0) (.call (.at_ 207 0 [true, true, true, true, true, true] (sv 172 [(0, vs l_0), (1, vi n_1), (2, vi 64), (8, vb b_3), (9, vs l_4)]) [] []) .ret) (brB (decide (n_2 < 0)) (.call (.at_ 207 0 [true, true, true, false, true, true, true, true, true] (sv 172 [(0, vs l_0), (1, vi n_1), (2, vi n_2), (8, vb b_3), (9, vs l_4), (83, vb true)]) [] []) .ret) (.call (.at_ 207 0 [true, true, true, false, true, true, true, true, true] (sv 172 [(0, vs l_0), (1, vi n_1), (2, vi n_2), (8, vb b_3), (9, vs l_4), (83, vb (decide (n_2 > 64)))]) [] []) .ret))) (brB (n_1 == 0) (ob (getI l_0 0) fun a => brB ((a.toNat : Int) == 48) (brB (decide ((l_0.length : Int) ≥ 3)) (ob (getI l_0 1) fun c => cV (.call 223 [.d (.i .u8 (c.toNat : Int))] []) fun e => asD e fun f => asI .u8 f fun g => .call (.at_ 207 0 [true, false, false, true, true, false, true, true, true, false, false, true, true, true, true] (sv 172 [(0, vs l_0), (2, vi n_2), (8, vb b_3), (9, vs l_4), (40, vb (g == 98))]) [] []) .ret) (.call (.at_ 207 0 [true, false, false, true, true, false, true, true, true, false, false, true, true, true, true] (sv 172 [(0, vs l_0), (2, vi n_2), (8, vb b_3), (9, vs l_4), (40, vb false)]) [] []) .ret)) (brB (n_2 == 0) (.call (.at_ 207 0 [true, true, true, true, true, true] (sv 172 [(0, vs l_0), (1, vi 10), (2, vi 64), (8, vb b_3), (9, vs l_4)]) [] []) .ret) (brB (decide (n_2 < 0)) (.call (.at_ 207 0 [true, true, true, false, true, true, true, true, true] (sv 172 [(0, vs l_0), (1, vi 10), (2, vi n_2), (8, vb b_3), (9, vs l_4), (83, vb true)]) [] []) .ret) (.call (.at_ 207 0 [true, true, true, false, true, true, true, true, true] (sv 172 [(0, vs l_0), (1, vi 10), (2, vi n_2), (8, vb b_3), (9, vs l_4), (83, vb (decide (n_2 > 64)))]) [] []) .ret)))) .fail)) :=
 rk_of (by kernel_rfl)
theorem u122_at127 (l_0 : List UInt8) (n_1 n_2 : Int) (b_3 : Bool) (l_4 : List UInt8) : rk Tryz.prog polU (.at_ 207 0 [true, true, true, true, true, true] (sv 172 [(0, vs l_0), (1, vi n_1), (2, vi n_2), (8, vb b_3), (9, vs l_4)]) [] []) = interp (rk Tryz.prog polU) (brB (n_1 == 10) (.call (.at_ 207 0 [true, true, true, true, true, true, true, true] (sv 172 [(0, vs l_0), (1, vi n_1), (2, vi n_2), (8, vb b_3), (9, vs l_4), (10, vu 1844674407370955162)]) [] []) .ret) (brB (n_1 == 16) (.call (.at_ 207 0 [true, true, true, true, true, true, true, true] (sv 172 [(0, vs l_0), (1, vi n_1), (2, vi n_2), (8, vb b_3), (9, vs l_4), (10, vu 1152921504606846976)]) [] []) .ret) (ift (decide (IntKind.u64.wrap n_1 ≠ 0)) (.call (.at_ 207 0 [true, true, true, true, true, true, true, true] (sv 172 [(0, vs l_0), (1, vi n_1), (2, vi n_2), (8, vb b_3), (9, vs l_4), (10, vu (IntKind.u64.wrap (IntKind.u64.wrap (Int.tdiv 18446744073709551615 (IntKind.u64.wrap n_1)) + 1)))]) [] []) .ret)))) :=
 rk_of (by kernel_rfl)
theorem u122_at991 (l_0 : List UInt8) (n_1 n_2 : Int) (b_3 : Bool) (l_4 : List UInt8) (b_5 : Bool) : rk Tryz.prog polU (.at_ 207 0 [true, true, true, false, true, true, true, true, true] (sv 172 [(0, vs l_0), (1, vi n_1), (2, vi n_2), (8, vb b_3), (9, vs l_4), (83, vb b_5)]) [] []) = interp (rk Tryz.prog polU) (brB b_5 .fail (.call (.at_ 207 0 [true, true, true, true, true, true] (sv 172 [(0, vs l_0), (1, vi n_1), (2, vi n_2), (8, vb b_3), (9, vs l_4)]) [] []) .ret)) :=
 rk_of (by kernel_rfl)
theorem u122_at511 (l_0 : List UInt8) (n_1 n_2 : Int) (b_3 : Bool) (l_4 : List UInt8) (n_5 : Int) : rk Tryz.prog polU (.at_ 207 0 [true, true, true, true, true, true, true, true] (sv 172 [(0, vs l_0), (1, vi n_1), (2, vi n_2), (8, vb b_3), (9, vs l_4), (10, vu n_5)]) [] []) = interp (rk Tryz.prog polU) (ift (decide (0 ≤ IntKind.u64.wrap n_2)) (ift (decide (l_0.length ≤ 4294967296) && true) (.call (.at_ 207 0 [false, true, false, true, true, true, true, true, true, true, true, true, true, true] (sv 172 [(1, vi n_1), (8, vb b_3), (9, vs l_4), (10, vu n_5), (11, vu (IntKind.u64.wrap (IntKind.u64.wrap (1 * 2 ^ min (IntKind.u64.wrap n_2).toNat 64) - 1))), (12, vb false), (13, vu 0), (99, vl false (ofBytes l_0)), (100, vi ((ofBytes l_0).length : Int)), (101, vi 0)]) [] []) .ret))) :=
 rk_of (by kernel_rfl)
theorem u122_at22527 (n_0 : Int) (b_1 : Bool) (l_2 : List UInt8) (n_3 n_4 : Int) (b_5 : Bool) (n_6 : Int) (b_7 : Bool) (l_8 : List D) (n_9 n_10 : Int) : rk Tryz.prog polU (.at_ 207 0 [false, true, false, true, true, true, true, true, true, true, true, true, true, true] (sv 172 [(1, vi n_0), (8, vb b_1), (9, vs l_2), (10, vu n_3), (11, vu n_4), (12, vb b_5), (13, vu n_6), (99, vl b_7 l_8), (100, vi n_9), (101, vi n_10)]) [] []) = interp (rk Tryz.prog polU) (brB (decide (n_10 < n_9)) (eC l_8 n_10 1 0 fun a => asI .u8 a fun c => brB (c == 95) (.call (.at_ 207 0 [true, false, false, true, true, false, false, true, true, false, false, true, false, true, true, true, true, true, true, true, true, true, true, true] (sv 172 [(1, vi n_0), (8, vb b_1), (9, vs l_2), (10, vu n_3), (11, vu n_4), (12, vb b_5), (13, vu n_6), (15, .d (.i .u8 c)), (99, vl b_7 l_8), (100, vi n_9), (101, vi n_10), (106, vb b_1)]) [] []) .ret) (.call (.at_ 207 0 [true, false, false, true, true, false, false, true, true, false, false, true, false, true, true, true, true, true, true, true, true, true, true, true] (sv 172 [(1, vi n_0), (8, vb b_1), (9, vs l_2), (10, vu n_3), (11, vu n_4), (12, vb b_5), (13, vu n_6), (15, .d (.i .u8 c)), (99, vl b_7 l_8), (100, vi n_9), (101, vi n_10), (106, vb false)]) [] []) .ret)) (brB b_5 (cV (.call 224 [vs l_2] []) fun e => aB e fun f => .call (.at_ 207 0 [true, false, true, true, true, true, true, true, true, true, true, true, true, true] (sv 172 [(13, vu n_6), (169, vb !f)]) [] []) .ret) (.call (.at_ 207 0 [true, false, true, true, true, true, true, true, true, true, true, true, true, true] (sv 172 [(13, vu n_6), (169, vb false)]) [] []) .ret))) :=
 rk_of (by kernel_rfl)
theorem u122_at26843135 (n_0 : Int) (b_1 : Bool) (l_2 : List UInt8) (n_3 n_4 : Int) (b_5 : Bool) (n_6 n_7 : Int) (b_8 : Bool) (l_9 : List D) (n_10 n_11 : Int) (b_12 : Bool) : rk Tryz.prog polU (.at_ 207 0 [true, false, false, true, true, false, false, true, true, false, false, true, false, true, true, true, true, true, true, true, true, true, true, true] (sv 172 [(1, vi n_0), (8, vb b_1), (9, vs l_2), (10, vu n_3), (11, vu n_4), (12, vb b_5), (13, vu n_6), (15, .d (.i .u8 n_7)), (99, vl b_8 l_9), (100, vi n_10), (101, vi n_11), (106, vb b_12)]) [] []) = interp (rk Tryz.prog polU) (brB b_12 (.call (.at_ 207 0 [false, true, false, true, true, true, true, true, true, true, true, true, true, true] (sv 172 [(1, vi n_0), (8, vb b_1), (9, vs l_2), (10, vu n_3), (11, vu n_4), (12, vb true), (13, vu n_6), (99, vl b_8 l_9), (100, vi n_10), (101, vi (IntKind.i64.wrap (n_11 + 1)))]) [] []) .ret) (brB (decide (48 ≤ n_7)) (.call (.at_ 207 0 [true, true, true, false, false, true, true, false, false, true, true, false, false, true, false, true, true, true, true, true, true, true, true, true, true, true] (sv 172 [(1, vi n_0), (8, vb b_1), (9, vs l_2), (10, vu n_3), (11, vu n_4), (12, vb b_5), (13, vu n_6), (15, .d (.i .u8 n_7)), (99, vl b_8 l_9), (100, vi n_10), (101, vi n_11), (112, vb (decide (n_7 ≤ 57)))]) [] []) .ret) (.call (.at_ 207 0 [true, true, true, false, false, true, true, false, false, true, true, false, false, true, false, true, true, true, true, true, true, true, true, true, true, true] (sv 172 [(1, vi n_0), (8, vb b_1), (9, vs l_2), (10, vu n_3), (11, vu n_4), (12, vb b_5), (13, vu n_6), (15, .d (.i .u8 n_7)), (99, vl b_8 l_9), (100, vi n_10), (101, vi n_11), (112, vb false)]) [] []) .ret))) :=
 rk_of (by kernel_rfl)
theorem u122_at28671 (n_0 : Int) (b_1 : Bool) : rk Tryz.prog polU (.at_ 207 0 [true, false, true, true, true, true, true, true, true, true, true, true, true, true] (sv 172 [(13, vu n_0), (169, vb b_1)]) [] []) = interp (rk Tryz.prog polU) (brB b_1 .fail (.ret (.t [vu n_0, V.nifc], []))) :=
 rk_of (by kernel_rfl)
theorem u122_at127506431 (n_0 : Int) (b_1 : Bool) (l_2 : List UInt8) (n_3 n_4 : Int) (b_5 : Bool) (n_6 n_7 : Int) (b_8 : Bool) (l_9 : List D) (n_10 n_11 : Int) (b_12 : Bool) : rk Tryz.prog polU (.at_ 207 0 [true, true, true, false, false, true, true, false, false, true, true, false, false, true, false, true, true, true, true, true, true, true, true, true, true, true] (sv 172 [(1, vi n_0), (8, vb b_1), (9, vs l_2), (10, vu n_3), (11, vu n_4), (12, vb b_5), (13, vu n_6), (15, .d (.i .u8 n_7)), (99, vl b_8 l_9), (100, vi n_10), (101, vi n_11), (112, vb b_12)]) [] []) = interp (rk Tryz.prog polU) (brB b_12 (brB (decide (IntKind.u8.wrap (n_7 - 48) ≥ IntKind.u8.wrap n_0)) .fail (brB (decide (n_6 ≥ n_3)) .fail (brB (decide (IntKind.u64.wrap (IntKind.u64.wrap (n_6 * IntKind.u64.wrap n_0) + IntKind.u64.wrap (IntKind.u8.wrap (n_7 - 48))) < IntKind.u64.wrap (n_6 * IntKind.u64.wrap n_0))) (.call (.at_ 207 0 [true, false, true, true, true, true, true, true, true, false, false, true, true, false, false, true, false, true, true, true, true, true, true, true, true, true, true, true] (sv 172 [(1, vi n_0), (8, vb b_1), (9, vs l_2), (10, vu n_3), (11, vu n_4), (12, vb b_5), (17, vu (IntKind.u64.wrap (IntKind.u64.wrap (n_6 * IntKind.u64.wrap n_0) + IntKind.u64.wrap (IntKind.u8.wrap (n_7 - 48))))), (99, vl b_8 l_9), (100, vi n_10), (101, vi n_11), (159, vb true)]) [] []) .ret) (.call (.at_ 207 0 [true, false, true, true, true, true, true, true, true, false, false, true, true, false, false, true, false, true, true, true, true, true, true, true, true, true, true, true] (sv 172 [(1, vi n_0), (8, vb b_1), (9, vs l_2), (10, vu n_3), (11, vu n_4), (12, vb b_5), (17, vu (IntKind.u64.wrap (IntKind.u64.wrap (n_6 * IntKind.u64.wrap n_0) + IntKind.u64.wrap (IntKind.u8.wrap (n_7 - 48))))), (99, vl b_8 l_9), (100, vi n_10), (101, vi n_11), (159, vb (decide (IntKind.u64.wrap (IntKind.u64.wrap (n_6 * IntKind.u64.wrap n_0) + IntKind.u64.wrap (IntKind.u8.wrap (n_7 - 48))) > n_4)))]) [] []) .ret)))) (cV (.call 223 [.d (.i .u8 n_7)] []) fun a => asD a fun c => asI .u8 c fun e => brB (decide (97 ≤ e)) (cV (.call 223 [.d (.i .u8 n_7)] []) fun f => asD f fun g => asI .u8 g fun h => .call (.at_ 207 0 [true, true, true, true, true, false, false, true, true, false, false, true, true, false, false, true, false, true, true, true, true, true, true, true, true, true, true, true] (sv 172 [(1, vi n_0), (8, vb b_1), (9, vs l_2), (10, vu n_3), (11, vu n_4), (12, vb b_5), (13, vu n_6), (15, .d (.i .u8 n_7)), (99, vl b_8 l_9), (100, vi n_10), (101, vi n_11), (121, vb (decide (h ≤ 122)))]) [] []) .ret) (.call (.at_ 207 0 [true, true, true, true, true, false, false, true, true, false, false, true, true, false, false, true, false, true, true, true, true, true, true, true, true, true, true, true] (sv 172 [(1, vi n_0), (8, vb b_1), (9, vs l_2), (10, vu n_3), (11, vu n_4), (12, vb b_5), (13, vu n_6), (15, .d (.i .u8 n_7)), (99, vl b_8 l_9), (100, vi n_10), (101, vi n_11), (121, vb false)]) [] []) .ret))) :=
 rk_of (by kernel_rfl)
theorem u122_at469342207 (n_0 : Int) (b_1 : Bool) (l_2 : List UInt8) (n_3 n_4 : Int) (b_5 : Bool) (n_6 : Int) (b_7 : Bool) (l_8 : List D) (n_9 n_10 : Int) (b_11 : Bool) : rk Tryz.prog polU (.at_ 207 0 [true, false, true, true, true, true, true, true, true, false, false, true, true, false, false, true, false, true, true, true, true, true, true, true, true, true, true, true] (sv 172 [(1, vi n_0), (8, vb b_1), (9, vs l_2), (10, vu n_3), (11, vu n_4), (12, vb b_5), (17, vu n_6), (99, vl b_7 l_8), (100, vi n_9), (101, vi n_10), (159, vb b_11)]) [] []) = interp (rk Tryz.prog polU) (brB b_11 .fail (.call (.at_ 207 0 [false, true, false, true, true, true, true, true, true, true, true, true, true, true] (sv 172 [(1, vi n_0), (8, vb b_1), (9, vs l_2), (10, vu n_3), (11, vu n_4), (12, vb b_5), (13, vu n_6), (99, vl b_7 l_8), (100, vi n_9), (101, vi (IntKind.i64.wrap (n_10 + 1)))]) [] []) .ret)) :=
 rk_of (by kernel_rfl)
theorem u122_at530159615 (n_0 : Int) (b_1 : Bool) (l_2 : List UInt8) (n_3 n_4 : Int) (b_5 : Bool) (n_6 n_7 : Int) (b_8 : Bool) (l_9 : List D) (n_10 n_11 : Int) (b_12 : Bool) : rk Tryz.prog polU (.at_ 207 0 [true, true, true, true, true, false, false, true, true, false, false, true, true, false, false, true, false, true, true, true, true, true, true, true, true, true, true, true] (sv 172 [(1, vi n_0), (8, vb b_1), (9, vs l_2), (10, vu n_3), (11, vu n_4), (12, vb b_5), (13, vu n_6), (15, .d (.i .u8 n_7)), (99, vl b_8 l_9), (100, vi n_10), (101, vi n_11), (121, vb b_12)]) [] []) = interp (rk Tryz.prog polU) (brB b_12 (cV (.call 223 [.d (.i .u8 n_7)] []) fun a => asD a fun c => asI .u8 c fun e => brB (decide (IntKind.u8.wrap (IntKind.u8.wrap (e - 97) + 10) ≥ IntKind.u8.wrap n_0)) .fail (brB (decide (n_6 ≥ n_3)) .fail (brB (decide (IntKind.u64.wrap (IntKind.u64.wrap (n_6 * IntKind.u64.wrap n_0) + IntKind.u64.wrap (IntKind.u8.wrap (IntKind.u8.wrap (e - 97) + 10))) < IntKind.u64.wrap (n_6 * IntKind.u64.wrap n_0))) (.call (.at_ 207 0 [true, false, true, true, true, true, true, true, true, false, false, true, true, false, false, true, false, true, true, true, true, true, true, true, true, true, true, true] (sv 172 [(1, vi n_0), (8, vb b_1), (9, vs l_2), (10, vu n_3), (11, vu n_4), (12, vb b_5), (17, vu (IntKind.u64.wrap (IntKind.u64.wrap (n_6 * IntKind.u64.wrap n_0) + IntKind.u64.wrap (IntKind.u8.wrap (IntKind.u8.wrap (e - 97) + 10))))), (99, vl b_8 l_9), (100, vi n_10), (101, vi n_11), (159, vb true)]) [] []) .ret) (.call (.at_ 207 0 [true, false, true, true, true, true, true, true, true, false, false, true, true, false, false, true, false, true, true, true, true, true, true, true, true, true, true, true] (sv 172 [(1, vi n_0), (8, vb b_1), (9, vs l_2), (10, vu n_3), (11, vu n_4), (12, vb b_5), (17, vu (IntKind.u64.wrap (IntKind.u64.wrap (n_6 * IntKind.u64.wrap n_0) + IntKind.u64.wrap (IntKind.u8.wrap (IntKind.u8.wrap (e - 97) + 10))))), (99, vl b_8 l_9), (100, vi n_10), (101, vi n_11), (159, vb (decide (IntKind.u64.wrap (IntKind.u64.wrap (n_6 * IntKind.u64.wrap n_0) + IntKind.u64.wrap (IntKind.u8.wrap (IntKind.u8.wrap (e - 97) + 10))) > n_4)))]) [] []) .ret)))) .fail) :=
 rk_of (by kernel_rfl)
end Go.Dn.Dec
namespace Go.Dn.Dec
open Go.Proofs
theorem f54 (b : Bool) (xs : List D) (c : Bool) (ys : List D) : rk Tryz.prog pol (.call 169 [vl b xs, vl c ys] []) = interp (rk Tryz.prog pol) (cV (.call 198 [vl b xs, vl c ys] []) fun a => unT a fun e => ift (e.length == 3) (asD (e.getD 0 (vb false)) fun f => asL f fun g h => asD (e.getD 1 (vb false)) fun j => asL j fun k m => asD (e.getD 2 (vb false)) fun n => asB n fun o => cV (.call 161 [vl k m, vi 1] []) fun p => aL p fun q r => cV (.call 164 [vl q r, vl c ys] []) fun s => aI s fun t => brB (decide (t > 0)) (.call (.at_ 169 0 [true, false, true, true, true] (sv 36 [(5, vl g h), (31, vb true)]) [] []) .ret) (brB (t == 0) (cV (.call 168 [vl g h] []) fun zu => aU zu fun v => .call (.at_ 169 0 [true, false, true, true, true] (sv 36 [(5, vl g h), (31, vb (IntKind.u64.wrap ((BitVec.ofInt IntKind.u64.bits v &&& BitVec.ofInt IntKind.u64.bits 1).toNat : Int) == 1))]) [] []) .ret) (.call (.at_ 169 0 [true, false, true, true, true] (sv 36 [(5, vl g h), (31, vb false)]) [] []) .ret)))) :=
 rk_of (by kernel_rfl)
theorem f33 (q : Int) : rk Tryz.prog pol (.call 112 [vu q] []) = interp (rk Tryz.prog pol) (brB (decide (IntKind.i64.wrap (IntKind.u64.wrap ((BitVec.ofInt IntKind.u64.bits (q.fdiv 4503599627370496) &&& BitVec.ofInt IntKind.u64.bits 2047).toNat : Int)) > 0)) (.call (.at_ 112 0 [true, true, true] (sv 34 [(4, vu (IntKind.u64.wrap ((BitVec.ofInt IntKind.u64.bits (IntKind.u64.wrap ((BitVec.ofInt IntKind.u64.bits q &&& BitVec.ofInt IntKind.u64.bits 4503599627370495).toNat : Int)) ||| BitVec.ofInt IntKind.u64.bits 4503599627370496).toNat : Int))), (5, vi (IntKind.i64.wrap (-1074 + IntKind.i64.wrap (IntKind.i64.wrap (IntKind.u64.wrap ((BitVec.ofInt IntKind.u64.bits (q.fdiv 4503599627370496) &&& BitVec.ofInt IntKind.u64.bits 2047).toNat : Int)) - 1))))]) [] []) .ret) (.call (.at_ 112 0 [true, true, true] (sv 34 [(4, vu (IntKind.u64.wrap ((BitVec.ofInt IntKind.u64.bits q &&& BitVec.ofInt IntKind.u64.bits 4503599627370495).toNat : Int))), (5, vi (-1074))]) [] []) .ret)) :=
 rk_of (by kernel_rfl)
theorem f35 (b : Bool) (xs : List D) (c : Bool) (ys : List D) (n : Int) : rk Tryz.prog pol (.call 114 [vl b xs, vl c ys, vi n] []) = interp (rk Tryz.prog pol) (brB (decide (n < 0)) (cV (.call 166 [vi (IntKind.i64.wrap (0 - n))] []) fun a => aL a fun e f => cV (.call 165 [vl b xs, vl e f] []) fun g => aL g fun h j => cV (.call 164 [vl h j, vl c ys] []) fun k => aI k fun m => .ret (vb (decide (m < 0)), [])) (cV (.call 166 [vi n] []) fun o => aL o fun p q => cV (.call 165 [vl c ys, vl p q] []) fun r => aL r fun s t => cV (.call 164 [vl b xs, vl s t] []) fun zu => aI zu fun v => .ret (vb (decide (v < 0)), []))) :=
 rk_of (by kernel_rfl)
theorem f37 (b : Bool) (xs : List D) (c : Bool) (ys : List D) (n : Int) : rk Tryz.prog pol (.call 116 [vl b xs, vl c ys, vi n] []) = interp (rk Tryz.prog pol) (brB (decide (n < 0)) (cV (.call 166 [vi (IntKind.i64.wrap (0 - n))] []) fun a => aL a fun e f => cV (.call 165 [vl b xs, vl e f] []) fun g => aL g fun h j => cV (.call 169 [vl h j, vl c ys] []) fun k => aL k fun m o => .ret (vl m o, [])) (cV (.call 166 [vi n] []) fun p => aL p fun q r => cV (.call 165 [vl c ys, vl q r] []) fun s => aL s fun t zu => cV (.call 169 [vl b xs, vl t zu] []) fun v => aL v fun w x => .ret (vl w x, []))) :=
 rk_of (by kernel_rfl)
theorem f36 (b : Bool) (xs : List D) : rk Tryz.prog pol (.call 115 [vl b xs] []) = interp (rk Tryz.prog pol) (cV (.call 168 [vl b xs] []) fun a => aU a fun c => cV (.call 167 [vu c, vi 10] []) fun e => aS e fun f => .ret (vs f, [])) :=
 rk_of (by kernel_rfl)
theorem f13 (s : List UInt8) : rk Tryz.prog pol (.call 144 [vs s] []) = interp (rk Tryz.prog pol) (cV (.call 184 [vs s] []) fun a => unT a fun c => ift (c.length == 2) (asD (c.getD 0 (vb false)) fun e => asG 5 e fun f => asD (c.getD 1 (vb false)) fun h => asB h fun j => ift ([.d (f.getD 0 (.b false)), .d (f.getD 1 (.b false)), .d (f.getD 2 (.b false)), .d (f.getD 3 (.b false)), .d (f.getD 4 (.b false))].all V.one) (brB (!j) (.ret (.t [vu 0, vi 2], [])) (asS (f.getD 1 (.b false)) fun k => asS (f.getD 2 (.b false)) fun m => brB (decide (IntKind.i64.wrap ((k.length : Int) + (m.length : Int)) > 60)) (.ret (.t [vu 0, vi 4], [])) (cV (.call 185 [.d (.g [f.getD 0 (.b false), f.getD 1 (.b false), f.getD 2 (.b false), f.getD 3 (.b false), f.getD 4 (.b false)])] []) fun n => unT n fun o => ift (o.length == 2) (asD (o.getD 0 (vb false)) fun q => asI .i64 q fun r => asD (o.getD 1 (vb false)) fun zu => asB zu fun v => brB (!v) (.ret (.t [vu 0, vi 5], [])) (asS (f.getD 2 (.b false)) fun w => asS (f.getD 1 (.b false)) fun x => asS (f.getD 2 (.b false)) fun y => ift (decide (x.length + y.length < 4611686018427387904)) (cV (.call 186 [vs (x ++ y)] []) fun z => aL z fun a0 a1 => cV (.call 160 [vu 1] []) fun a2 => aL a2 fun a3 a4 => brB (decide (IntKind.i64.wrap (r - (w.length : Int)) > 0)) (cV (.call 166 [vi (IntKind.i64.wrap (r - (w.length : Int)))] []) fun a5 => aL a5 fun a6 a7 => cV (.call 165 [vl a0 a1, vl a6 a7] []) fun a8 => aL a8 fun a9 aa => .call (.at_ 144 0 [true, true, true, true, true, true, true, true] (sv 68 [(4, .p 0 0), (7, vl a9 aa), (8, vl a3 a4)]) [] [.cells [.d (f.getD 0 (.b false)), .d (f.getD 1 (.b false)), .d (f.getD 2 (.b false)), .d (f.getD 3 (.b false)), .d (f.getD 4 (.b false))] []]) .ret) (cV (.call 166 [vi (IntKind.i64.wrap (0 - IntKind.i64.wrap (r - (w.length : Int))))] []) fun ab => aL ab fun ac ad => .call (.at_ 144 0 [true, true, true, true, true, true, true, true] (sv 68 [(4, .p 0 0), (7, vl a0 a1), (8, vl ac ad)]) [] [.cells [.d (f.getD 0 (.b false)), .d (f.getD 1 (.b false)), .d (f.getD 2 (.b false)), .d (f.getD 3 (.b false)), .d (f.getD 4 (.b false))] []]) .ret))))))))) :=
 rk_of (by kernel_rfl)
theorem f15 (q : Int) : rk Tryz.prog pol (.call 50 [vu q] []) = interp (rk Tryz.prog pol) (brB (IntKind.u64.wrap ((BitVec.ofInt IntKind.u64.bits (q.fdiv 4503599627370496) &&& BitVec.ofInt IntKind.u64.bits 2047).toNat : Int) == 2047) (.ret (vs [], [])) (brB (IntKind.u64.wrap ((BitVec.ofInt IntKind.u64.bits q &&& BitVec.ofInt IntKind.u64.bits 9223372036854775808).toNat : Int) != 0) (.call (.at_ 50 0 [true, true, true, true] (sv 76 [(0, vu (IntKind.u64.wrap ((BitVec.ofInt IntKind.u64.bits q &&& ~~~BitVec.ofInt IntKind.u64.bits 9223372036854775808).toNat : Int))), (3, vs [45])]) [] []) .ret) (.call (.at_ 50 0 [true, true, true, true] (sv 76 [(0, vu q), (3, vs [])]) [] []) .ret))) :=
 rk_of (by kernel_rfl)
theorem f54_at55 (b_0 : Bool) (l_1 : List D) (b_2 : Bool) : rk Tryz.prog pol (.at_ 169 0 [true, false, true, true, true] (sv 36 [(5, vl b_0 l_1), (31, vb b_2)]) [] []) = interp (rk Tryz.prog pol) (brB b_2 (cV (.call 160 [vu 1] []) fun o_0 => aL o_0 fun b_2 l_3 => cV (.call 199 [vl b_0 l_1, vl b_2 l_3] []) fun o_4 => aL o_4 fun b_6 l_7 => .ret (vl b_6 l_7, [])) (.ret (vl b_0 l_1, []))) :=
 rk_of (by kernel_rfl)
theorem f33_at15 (n_0 n_1 : Int) : rk Tryz.prog pol (.at_ 112 0 [true, true, true] (sv 34 [(4, vu n_0), (5, vi n_1)]) [] []) = interp (rk Tryz.prog pol) (brB (decide (n_1 < 0)) (cV (.call 160 [vu n_0] []) fun a => aL a fun b c => cV (.call 160 [vu 1] []) fun e => aL e fun f g => cV (.call 161 [vl f g, vi (IntKind.i64.wrap (0 - n_1))] []) fun h => aL h fun j k => .ret (.t [vl b c, vl j k], [])) (cV (.call 160 [vu n_0] []) fun m => aL m fun n o => cV (.call 161 [vl n o, vi n_1] []) fun p => aL p fun q r => cV (.call 160 [vu 1] []) fun s => aL s fun zu v => .ret (.t [vl q r, vl zu v], []))) :=
 rk_of (by kernel_rfl)
theorem f15_at31 (n_0 : Int) (l_1 : List UInt8) : rk Tryz.prog pol (.at_ 50 0 [true, true, true, true] (sv 76 [(0, vu n_0), (3, vs l_1)]) [] []) = interp (rk Tryz.prog pol) (brB (n_0 == 0) (ift (decide (l_1.length + 5 < 4611686018427387904)) (.ret (vs (l_1 ++ [48, 46, 48, 101, 48]), []))) (cV (.call 112 [vu n_0] []) fun a => unT a fun c => ift (c.length == 2) (asD (c.getD 0 (vb false)) fun e => asL e fun f g => asD (c.getD 1 (vb false)) fun h => asL h fun j k => cV (.call 113 [vl f g] []) fun m => aI m fun n => cV (.call 113 [vl j k] []) fun o => aI o fun p => .call (.at_ 50 0 [false, false, true, true, true, true, true, true, true] (sv 76 [(3, vs l_1), (4, vl f g), (5, vl j k), (6, vi (IntKind.i64.wrap (IntKind.i64.wrap ((IntKind.i64.wrap (IntKind.i64.wrap (n - p) * 30103)).tdiv 100000) + 1)))]) [] []) .ret))) :=
 rk_of (by kernel_rfl)
theorem f15_at639 (l_0 : List UInt8) (b_1 : Bool) (l_2 : List D) (b_3 : Bool) (l_4 : List D) (n_5 : Int) : rk Tryz.prog pol (.at_ 50 0 [false, false, true, true, true, true, true, true, true] (sv 76 [(3, vs l_0), (4, vl b_1 l_2), (5, vl b_3 l_4), (6, vi n_5)]) [] []) = interp (rk Tryz.prog pol) (cV (.call 114 [vl b_1 l_2, vl b_3 l_4, vi n_5] []) fun a => aB a fun b => brB b (.call (.at_ 50 0 [false, false, true, true, true, true, true, true, true] (sv 76 [(3, vs l_0), (4, vl b_1 l_2), (5, vl b_3 l_4), (6, vi (IntKind.i64.wrap (n_5 - 1)))]) [] []) .ret) (cV (.call 116 [vl b_1 l_2, vl b_3 l_4, vi (IntKind.i64.wrap (IntKind.i64.wrap (n_5 - 17) + 1))] []) fun c => aL c fun e f => cV (.call 115 [vl e f] []) fun g => aS g fun h => brB (decide ((h.length : Int) > 17)) (cV (.call 116 [vl b_1 l_2, vl b_3 l_4, vi (IntKind.i64.wrap (IntKind.i64.wrap (IntKind.i64.wrap (n_5 + 1) - 17) + 1))] []) fun j => aL j fun k m => cV (.call 115 [vl k m] []) fun n => aS n fun o => .call (.at_ 50 0 [true, true, true, true, true, true, true, true, true, true] (sv 76 [(3, vs l_0), (6, vi (IntKind.i64.wrap (n_5 + 1))), (7, vs o)]) [] []) .ret) (.call (.at_ 50 0 [true, true, true, true, true, true, true, true, true, true] (sv 76 [(3, vs l_0), (6, vi n_5), (7, vs h)]) [] []) .ret))) :=
 rk_of (by kernel_rfl)
theorem f15_at2047 (l_0 : List UInt8) (n_1 : Int) (l_2 : List UInt8) : rk Tryz.prog pol (.at_ 50 0 [true, true, true, true, true, true, true, true, true, true] (sv 76 [(3, vs l_0), (6, vi n_1), (7, vs l_2)]) [] []) = interp (rk Tryz.prog pol) (ift (decide ((0 : Int) ≤ 1 ∧ 1 ≤ (l_2.length : Int))) (cV (.call 117 [vs (List.take (l_2.length - 1) (List.drop 1 l_2)), vs [48]] []) fun a => aS a fun b => brB (b == []) (.call (.at_ 50 0 [true, true, true, true, true, true, true, true, true, true, true, true] (sv 76 [(3, vs l_0), (6, vi n_1), (7, vs l_2), (8, vs [48])]) [] []) .ret) (.call (.at_ 50 0 [true, true, true, true, true, true, true, true, true, true, true, true] (sv 76 [(3, vs l_0), (6, vi n_1), (7, vs l_2), (8, vs b)]) [] []) .ret))) :=
 rk_of (by kernel_rfl)
theorem f15_at8191 (l_0 : List UInt8) (n_1 : Int) (l_2 l_3 : List UInt8) : rk Tryz.prog pol (.at_ 50 0 [true, true, true, true, true, true, true, true, true, true, true, true] (sv 76 [(3, vs l_0), (6, vi n_1), (7, vs l_2), (8, vs l_3)]) [] []) = interp (rk Tryz.prog pol) (ift (decide ((0 : Int) ≤ 1 ∧ 1 ≤ (l_2.length : Int))) (ift (decide (l_0.length + (List.take 1 (List.drop 0 l_2)).length < 4611686018427387904)) (ift (decide ((l_0 ++ List.take 1 (List.drop 0 l_2)).length + 1 < 4611686018427387904)) (ift (decide ((l_0 ++ List.take 1 (List.drop 0 l_2) ++ [46]).length + l_3.length < 4611686018427387904)) (ift (decide ((l_0 ++ List.take 1 (List.drop 0 l_2) ++ [46] ++ l_3).length + 1 < 4611686018427387904)) (cV (.call 118 [vi n_1] []) fun a => aS a fun b => ift (decide ((l_0 ++ List.take 1 (List.drop 0 l_2) ++ [46] ++ l_3 ++ [101]).length + b.length < 4611686018427387904)) (.ret (vs (l_0 ++ List.take 1 (List.drop 0 l_2) ++ [46] ++ l_3 ++ [101] ++ b), [])))))))) :=
 rk_of (by kernel_rfl)
end Go.Dn.Dec
namespace Go.Dn.Dec
open Go.Proofs
set_option exponentiation.threshold 5000000
def nearN (x y : Nat) : Nat := if y < 2 * (x % y) ∨ (2 * (x % y) = y ∧ x / y % 2 = 1) then x / y + 1 else x / y
theorem fits_one : Fits 1 := fits_two (Nat.one_lt_two_pow (by decide))
theorem of_one : rk Tryz.prog pol (Task.call 160 [V.d (D.i .u64 1)] []) = some (.d (.l (nb 1) (ws 1)), []) := of_ws 1 (by decide)
theorem low_bit {q : Nat} : (IntKind.u64.wrap (((BitVec.ofInt IntKind.u64.bits ((q % 18446744073709551616 : Nat) : Int) &&& BitVec.ofInt IntKind.u64.bits 1).toNat : Nat) : Int) == 1) = decide (q % 2 = 1) := by
 have e : (BitVec.ofInt IntKind.u64.bits ((q % 18446744073709551616 : Nat) : Int) &&& BitVec.ofInt IntKind.u64.bits 1).toNat = q % 2 := by
  show (BitVec.ofInt 64 ((q % 18446744073709551616 : Nat) : Int) &&& BitVec.ofInt 64 1).toNat = _
  rw [BitVec.toNat_and, BitVec.ofInt_natCast, BitVec.toNat_ofNat]
  have : (BitVec.ofInt 64 1).toNat = 1 := by decide
  rw [this, Nat.and_one_is_mod]; omega
 rw [e, u64_wrap, mod_64 (by omega)]
 rcases Nat.mod_two_eq_zero_or_one q with h | h <;> simp [h]
theorem near_ws (b c : Bool) (x y : Nat) (hx : Fits x) (hx1 : Fits (x + 1)) (hy : Fits (y * 2)) (hy0 : 0 < y) : rk Tryz.prog pol (Task.call 169 [V.d (D.l b (ws x)), V.d (D.l c (ws y))] []) = some (.d (.l (nb (nearN x y)) (ws (nearN x y))), []) := by
 rw [f54]
 have hdv := div_ws b c x y hx hy hy0
 have hr : x % y < y := Nat.mod_lt _ hy0
 have fr : Fits (x % y) := hy.le (by omega)
 have hs : rk Tryz.prog pol (Task.call 161 [V.d (D.l (nb (x % y)) (ws (x % y))), V.d (D.i .i64 1)] []) = some (.d (.l (nb (x % y * 2 ^ 1)) (ws (x % y * 2 ^ 1))), []) := shl_ws (nb (x % y)) (x % y) 1 fr (by decide)
 rw [Nat.pow_one] at hs
 have hc := cmp_ws (nb (x % y * 2)) c (x % y * 2) y (hy.le (by omega)) (hy.le (by omega))
 have hq : x / y ≤ x := Nat.div_le_self _ _
 have hl := low_ws (nb (x / y)) (x / y) (hx.le hq)
 have ha := add_ws (nb (x / y)) (nb 1) (x / y) 1 (hx.le hq) fits_one
 have t1 : ∀ bb : Bool, rk Tryz.prog pol (Task.at_ 169 0 [true, false, true, true, true] (sv 36 [(5, V.d (D.l (nb (x / y)) (ws (x / y)))), (31, V.d (D.b bb))]) [] []) = some (.d (.l (nb (if bb = true then x / y + 1 else x / y)) (ws (if bb = true then x / y + 1 else x / y))), []) := by
  intro bb
  rw [f54_at55]
  cases bb
  ·simp
  ·simp [of_one, ha]
 simp only [interp_call', hdv, Option.bind_some, List.isEmpty_nil, interp_ift', if_true, unT_t, List.length_cons, List.length_nil, Nat.zero_add, Nat.reduceAdd, beq_self_eq_true, List.getD_cons_zero, List.getD_cons_succ, asD_d, asL_l, asB_b, hs, hc, interp_asI, interp_brB, interp_ret, hl, low_bit, t1]
 unfold nearN cmpN
 by_cases h1 : x % y * 2 < y
 ·simp only [if_pos h1]
  rw [if_neg (by decide), if_neg (by decide)]
  have : ¬ (y < 2 * (x % y) ∨ (2 * (x % y) = y ∧ x / y % 2 = 1)) := by omega
  simp [this]
 ·by_cases h2 : y < x % y * 2
  ·simp only [if_neg h1, if_pos h2]
   have : (y < 2 * (x % y) ∨ (2 * (x % y) = y ∧ x / y % 2 = 1)) := by omega
   simp [this]
  ·simp only [if_neg h1, if_neg h2]
   have e : (y < 2 * (x % y) ∨ (2 * (x % y) = y ∧ x / y % 2 = 1)) = (x / y % 2 = 1) := propext (by omega)
   simp only [e]
   simp
theorem nearN_le {x y k : Nat} (hy : 0 < y) (h : x ≤ k * y) : nearN x y ≤ k := by
 have hd := Nat.div_add_mod x y
 have hr : x % y < y := Nat.mod_lt _ hy
 have h1 : x / y ≤ k := Nat.div_le_of_le_mul (by rw [Nat.mul_comm]; exact h)
 unfold nearN
 split
 ·rcases Nat.lt_or_ge (x / y) k with h2 | h2
  ·omega
  ·have : x / y = k := by omega
   rw [this, Nat.mul_comm] at hd
   omega
 ·exact h1
def Mid (n : Nat) : Prop := n < 2 ^ 4000
theorem Mid.fits {n : Nat} (h : Mid n) : Fits n := fits_two (Nat.lt_of_lt_of_le h (Nat.pow_le_pow_right (by decide) (by decide)))
theorem Mid.mul_fits {n k : Nat} (h : Mid n) (hk : k ≤ 10000) : Fits (n * 2 ^ k) ∧ Fits (n * 2 ^ k + 1) ∧ Fits (n * 2 ^ k * 2) := by
 have h1 : n * 2 ^ k + 1 ≤ 2 ^ (4000 + k) := by rw [Nat.pow_add]; exact Nat.mul_lt_mul_of_pos_right h (Nat.pow_pos (by decide))
 have h3 : n * 2 ^ k * 2 ≤ 2 ^ (4000 + k + 1) := by rw [Nat.pow_succ]; exact Nat.mul_le_mul_right _ (by omega)
 have h2 : 2 ^ (4000 + k + 1) < 2 ^ 300000 := Nat.pow_lt_pow_right (by decide) (by omega)
 have h4 : 2 ^ (4000 + k) ≤ 2 ^ (4000 + k + 1) := Nat.pow_le_pow_right (by decide) (by omega)
 exact ⟨fits_two (by omega), fits_two (by omega), fits_two (by omega)⟩
theorem Mid.blen {n : Nat} (h : Mid n) : blen n ≤ 4000 := (blen_le_iff _ _).2 h
theorem Mid.fits1 {n : Nat} (h : Mid n) : Fits (n + 1) := by have := (h.mul_fits (k := 0) (by decide)).2.1; rwa [Nat.pow_zero, Nat.mul_one] at this
theorem Mid.fits2 {n : Nat} (h : Mid n) : Fits (n * 2) := by have := (h.mul_fits (k := 0) (by decide)).2.2; rwa [Nat.pow_zero, Nat.mul_one] at this
end Go.Dn.Dec
namespace Go.Dn.Dec
open Go.Proofs
set_option exponentiation.threshold 5000000
theorem mid_lt {n : Nat} (h : n < 2 ^ 4000) : Mid n := h
theorem mid_u64 {n : Nat} (h : n < 18446744073709551616) : Mid n := mid_lt (Nat.lt_of_lt_of_le h (show (2:Nat) ^ 64 ≤ 2 ^ 4000 from Nat.pow_le_pow_right (by decide) (by decide)))
theorem len2 (a b : V) : ([a, b].length == 2) = true := rfl
def isDig (c : UInt8) : Bool := decide (48 ≤ c.toNat) && decide (c.toNat ≤ 57)
def signB (s : List UInt8) : Bool × List UInt8 :=
 match s with
 | [] => (false, [])
 | c :: r => if c = 43 then (false, r) else if c = 45 then (true, r) else (false, c :: r)
theorem u8_eq (c d : UInt8) : ((c.toNat : Int) == (d.toNat : Int)) = decide (c = d) := by
 by_cases h : c = d
 ·subst h; simp
 ·have : c.toNat ≠ d.toNat := fun e => h (UInt8.toNat_inj.1 e)
  rw [beq_eq_false_iff_ne.2 (by omega)]; simp [h]
structure Tx where
 neg : Bool
 whole : List UInt8
 part : List UInt8
 en : Bool
 ex : List UInt8
def Tx.g (t : Tx) : List D := [.b t.neg, .s t.whole, .s t.part, .b t.en, .s t.ex]
def finB (neg : Bool) (w p s : List UInt8) : Tx × Bool :=
 if w = [] ∧ p = [] then (⟨neg, w, p, false, []⟩, false)
 else match s with
  | [] => (⟨neg, w, p, false, []⟩, true)
  | c :: r => if c ≠ 101 ∧ c ≠ 69 then (⟨neg, w, p, false, []⟩, false)
   else (⟨neg, w, p, (signB r).1, (signB r).2.takeWhile isDig⟩, decide ((signB r).2.takeWhile isDig ≠ []) && decide ((signB r).2.dropWhile isDig = []))
def splitB (s : List UInt8) : Tx × Bool :=
 let n := (signB s).1
 let w := (signB s).2.takeWhile isDig
 match (signB s).2.dropWhile isDig with
 | [] => finB n w [] []
 | c :: r => if c = 46 then (if r.takeWhile isDig = [] then (⟨n, w, [], false, []⟩, false) else finB n w (r.takeWhile isDig) (r.dropWhile isDig)) else finB n w [] (c :: r)
theorem beq_nil (l : List UInt8) : (l == []) = decide (l = []) := by cases l <;> simp
end Go.Dn.Dec
namespace Go.Dn.Dec
open Go.Proofs
set_option exponentiation.threshold 5000000
theorem pow10_lt {n : Nat} (h : n ≤ 1000) : 10 ^ n < 2 ^ 4000 := by
 have h1 : 10 ^ n ≤ 10 ^ 1000 := Nat.pow_le_pow_right (by decide) h
 have h2 : 10 ^ 1000 ≤ 16 ^ 1000 := Nat.pow_le_pow_left (by decide) 1000
 have h3 : (16 : Nat) ^ 1000 = 2 ^ 4000 := by rw [show (16 : Nat) = 2 ^ 4 from rfl, ← Nat.pow_mul]
 have h4 : (10 : Nat) ^ 1000 < 16 ^ 1000 := Nat.pow_lt_pow_left (by decide) (by decide)
 omega
end Go.Dn.Dec
namespace Go.Dn.Dec
open Go.Proofs
theorem lower_n (n : Nat) (h : (65 ≤ n ∧ n ≤ 70) ∨ (97 ≤ n ∧ n ≤ 102)) : IntKind.u8.wrap ((BitVec.ofInt IntKind.u8.bits (n : Int) ||| BitVec.ofInt IntKind.u8.bits 32).toNat : Int) = if 97 ≤ n then (n : Int) else (n : Int) + 32 := by
 have : n = 65 ∨ n = 66 ∨ n = 67 ∨ n = 68 ∨ n = 69 ∨ n = 70 ∨ n = 97 ∨ n = 98 ∨ n = 99 ∨ n = 100 ∨ n = 101 ∨ n = 102 := by omega
 rcases this with rfl | rfl | rfl | rfl | rfl | rfl | rfl | rfl | rfl | rfl | rfl | rfl <;> rfl
theorem isHex_iff (c : UInt8) : isHex c = true ↔ (48 ≤ c.toNat ∧ c.toNat ≤ 57) ∨ (97 ≤ c.toNat ∧ c.toNat ≤ 102) ∨ (65 ≤ c.toNat ∧ c.toNat ≤ 70) := by
 unfold isHex
 simp only [Bool.or_eq_true, Bool.and_eq_true, decide_eq_true_eq]
 omega
theorem lower_s (c : UInt8) (h : isHex c = true) (h2 : ¬ c.toNat ≤ 57) : rk Tryz.prog polU (Task.call 223 [V.d (D.i .u8 (c.toNat : Int))] []) = some (.d (.i .u8 ((hexVal c : Int) + 87)), []) := by
 have h3 := (isHex_iff c).1 h
 rw [u133, interp_ret, lower_n c.toNat (by omega)]
 unfold hexVal
 rw [if_neg h2]
 by_cases h4 : 97 ≤ c.toNat
 ·rw [if_pos h4, if_pos h4, show ((c.toNat - 87 : Nat) : Int) + 87 = (c.toNat : Int) by omega]
 ·rw [if_neg h4, if_neg h4, show ((c.toNat - 55 : Nat) : Int) + 87 = (c.toNat : Int) + 32 by omega]
theorem hexVal_lt (c : UInt8) (h : isHex c = true) : hexVal c < 16 := by
 have := (isHex_iff c).1 h
 unfold hexVal
 split
 ·omega
 ·split <;> omega
def puS (s : List UInt8) (l2 : List UInt8) (v : Int) (i : Nat) : List (Nat × V) :=
 [(1, V.d (D.i IntKind.i64 16)), (8, V.d (D.b false)), (9, V.d (D.s l2)), (10, V.d (D.i IntKind.u64 1152921504606846976)), (11, V.d (D.i IntKind.u64 18446744073709551615)), (12, V.d (D.b false)), (13, V.d (D.i IntKind.u64 v)),
   (99, V.d (D.l false (ofBytes s))), (100, V.d (D.i IntKind.i64 (s.length : Int))), (101, V.d (D.i IntKind.i64 (i : Int)))]
theorem pu_loop (l2 : List UInt8) : ∀ (r p : List UInt8) (v : Nat), (∀ c ∈ r, isHex c = true) → (p ++ r).length ≤ 16 → v < 16 ^ p.length →
  rk Tryz.prog polU (Task.at_ 207 0 [false, true, false, true, true, true, true, true, true, true, true, true, true, true] (sv 172 (puS (p ++ r) l2 (v : Int) p.length)) [] []) =
   some (.t [.d (.i .u64 ((r.foldl (fun a c => a * 16 + hexVal c) v : Nat) : Int)), .nifc], [])
 | [], p, v, hd, hl, hv => by
  unfold puS
  rw [List.append_nil, u122_at22527, st_f (by omega), st_F, interp_call_ret, u122_at28671, st_F, interp_ret]
  rfl
 | c :: r, p, v, hd, hl, hv => by
  have hc := hd c (by simp)
  have hc3 := (isHex_iff c).1 hc
  have hx := hexVal_lt c hc
  have hlen : (p ++ c :: r).length = p.length + (r.length + 1) := by simp
  have hi : p.length < (p ++ c :: r).length := by omega
  have hel : (ofBytes (p ++ c :: r))[p.length]? = some (.i .u8 (c.toNat : Int)) := by unfold ofBytes; simp
  have g1 : getI (ofBytes (p ++ c :: r)) (p.length : Int) = some (.i .u8 (c.toNat : Int)) := by rw [getI_nat]; exact hel
  have g2 : (ofBytes (p ++ c :: r))[(p.length : Int).toNat]? = some (.i .u8 (c.toNat : Int)) := by rw [Int.toNat_natCast]; exact hel
  have hpl : (p ++ [c]).length = p.length + 1 := by simp
  have hv2 : v * 16 + hexVal c < 16 ^ (p ++ [c]).length := by rw [hpl, Nat.pow_succ]; omega
  have hp15 : p.length ≤ 15 := by omega
  have hv1 : v < 1152921504606846976 := Nat.lt_of_lt_of_le hv (Nat.le_trans (Nat.pow_le_pow_right (by decide) hp15) (by decide))
  have ih := pu_loop l2 r (p ++ [c]) (v * 16 + hexVal c) (fun c h => hd c (by simp [h])) (by simpa using hl) hv2
  rw [List.append_assoc, List.singleton_append, hpl] at ih
  have w16 : IntKind.u64.wrap 16 = 16 := rfl
  have w16b : IntKind.u8.wrap 16 = 16 := rfl
  have w1 : IntKind.u64.wrap ((v : Int) * 16) = ((v * 16 : Nat) : Int) := by rw [u64_wrap]; omega
  have w2 : IntKind.u64.wrap ((hexVal c : Nat) : Int) = ((hexVal c : Nat) : Int) := by rw [u64_wrap]; omega
  have w3 : IntKind.u64.wrap (((v * 16 : Nat) : Int) + ((hexVal c : Nat) : Int)) = ((v * 16 + hexVal c : Nat) : Int) := by rw [u64_wrap]; omega
  have w4 : IntKind.i64.wrap ((p.length : Int) + 1) = ((p.length + 1 : Nat) : Int) := by rw [wrap_i64] <;> omega
  unfold puS at ih ⊢
  rw [u122_at22527, st_t (by omega), st_ob g1]
  show interp _ (ift true _) = _
  rw [st_ift, st_ob g2, st_ob (a := D.i .u8 (c.toNat : Int)) (by rfl), st_asI, st_ne (by omega), interp_call_ret, u122_at26843135, st_F, st_t (by omega), interp_call_ret]
  by_cases h57 : c.toNat ≤ 57
  ·have e : IntKind.u8.wrap ((c.toNat : Int) - 48) = ((hexVal c : Nat) : Int) := by unfold hexVal; rw [if_pos h57, wrap_u8] <;> omega
   rw [decide_eq_true (show (c.toNat : Int) ≤ 57 by omega), u122_at127506431, st_T, e, w16b, st_f (by omega), st_f (by omega), w16, w1, w2, w3, st_f (by omega), interp_call_ret, decide_eq_false (by omega), u122_at469342207, st_F, w4, interp_call_ret, ih]
   rfl
  ·have hlw := lower_s c hc h57
   have e1 : IntKind.u8.wrap ((hexVal c : Int) + 87 - 97) = IntKind.u8.wrap ((hexVal c : Int) - 10) := by congr 1; omega
   have h10 : 10 ≤ hexVal c := by unfold hexVal; rw [if_neg h57]; split <;> omega
   have e2 : IntKind.u8.wrap ((hexVal c : Int) - 10) = (hexVal c : Int) - 10 := by rw [wrap_u8] <;> omega
   have e3 : IntKind.u8.wrap ((hexVal c : Int) - 10 + 10) = ((hexVal c : Nat) : Int) := by rw [wrap_u8] <;> omega
   rw [decide_eq_false (show ¬ (c.toNat : Int) ≤ 57 by omega), u122_at127506431, st_F, st_I hlw, st_t (by omega), st_I hlw, interp_call_ret, decide_eq_true (by omega), u122_at530159615, st_T, st_I hlw, e1, e2, e3, w16b,
    st_f (by omega), st_f (by omega), w16, w1, w2, w3, st_f (by omega), interp_call_ret, decide_eq_false (by omega), u122_at469342207, st_F, w4, interp_call_ret, ih]
   rfl
theorem pu_s (s : List UInt8) (hne : s ≠ []) (hl : s.length ≤ 16) (hd : ∀ c ∈ s, isHex c = true) :
  rk Tryz.prog polU (Task.call 207 [V.d (D.s s), V.d (D.i .i64 16), V.d (D.i .i64 64)] []) = some (.t [.d (.i .u64 ((hexV s : Nat) : Int)), .nifc], []) := by
 have hL := pu_loop s s [] 0 hd (by simpa using hl) (by decide)
 rw [List.nil_append] at hL
 unfold hexV
 rw [u122, st_bf (by cases s with | nil => exact absurd rfl hne | cons c s => rfl), interp_call_ret, u122_at207, st_T, st_ne (by decide), st_f (by decide), interp_call_ret, u122_at991, decide_eq_false (by decide), st_F, interp_call_ret,
  u122_at127, st_ne (by decide), st_eq rfl, interp_call_ret, u122_at511, st_if (by decide), Bool.and_true, st_if (by omega), interp_call_ret]
 rw [show (ofBytes s).length = s.length from List.length_map ..]
 exact hL
end Go.Dn.Dec
namespace Go.Dn.Dec
open Go.Proofs Go.RowKit Go.Sort
set_option maxRecDepth 100000
theorem mixed : Tryz.prog.follows .mixedOrders = true := by kernel_rfl
theorem names : (Tryz.prog.funcs.toList.all fun f => f.name != "runtime.NumGoroutine") = true := by kernel_rfl
theorem hname (k : Nat) (fn : Func) (h : Tryz.prog.funcs[k]? = some fn) : fn.name ≠ "runtime.NumGoroutine" := by
 have h1 : fn ∈ Tryz.prog.funcs.toList := by rw [← Array.getElem?_toList] at h; exact List.mem_of_getElem? h
 have := List.all_eq_true.1 names fn h1
 simpa using this
theorem vs_one {G : Sg} {x : V} {vs : Array Value} (hr : RVs G [x] vs.toList) : ∃ v, vs = #[v] ∧ RV G x v := by
 obtain ⟨v, hv, hx⟩ := RVs.get hr (i := 0) rfl
 have hl := RVs.length hr
 refine ⟨v, ?_, hx⟩
 apply Array.ext'
 match hvs : vs.toList, hl, hv with
 | [y], _, hv => simp at hv; subst hv; rfl
theorem vs_two {G : Sg} {x y : V} {vs : Array Value} (hr : RVs G [x, y] vs.toList) : ∃ v u, vs = #[v, u] ∧ RV G x v ∧ RV G y u := by
 obtain ⟨v, hv, hx⟩ := RVs.get hr (i := 0) rfl
 obtain ⟨u, hu, hy⟩ := RVs.get hr (i := 1) rfl
 have hl := RVs.length hr
 refine ⟨v, u, ?_, hx, hy⟩
 apply Array.ext'
 match hvs : vs.toList, hl, hv, hu with
 | [a, b], _, hv, hu => simp at hv hu; subst hv; subst hu; rfl
theorem below_grow (w : World) (k : Nat) (os : Array Obj) : Below w.heap.size w (grow (w.drewN k) os) :=
 ⟨rfl, rfl, rfl, by simp [grow, World.drewN], fun i hi => heap_grow_old _ _ (by simpa using hi)⟩
theorem good_data {k : Nat} {args : List V} {S : List Ob} {x : D} {v : Value} {fn : Func} (hf : Tryz.prog.funcs[k]? = some fn) (hb : fn.body.isSome = true) (hx : ∀ F, RD F x v)
  (h : ∀ w G vs, Inv w G S → RVs G args vs.toList → Calls Tryz.prog k vs w fun e w' => e = .returned v ∧ (w' = w ∨ ∃ n os, w' = grow (w.drewN n) os)) : GoodCall Tryz.prog k args S (.d x, S) := by
 refine GoodCall.of_below fun w G vs hI hr => ?_
 refine Answers.of_calls hf hb (hname k fn hf) ((h w G vs hI hr).mono ?_)
 rintro e w' ⟨rfl, hw⟩
 refine ⟨v, rfl, ?_, by simp only [RV]; exact hx _⟩
 rcases hw with rfl | ⟨n, os, rfl⟩
 ·exact Below.refl _ _
 ·exact below_grow _ _ _
theorem tab_is {w : World} {G : Sg} {S : List Ob} (hI : Inv w G S) : Lib.TabIs Tryz.prog w "internal/strconv.uint64pow10" .u64 Lib.pow10Tab := by
 obtain ⟨⟨arr, x, y, e, rfl⟩, _⟩ := hI.tb 0 _ rfl
 have hg : Tryz.prog.globalNamed "internal/strconv.uint64pow10" = some 0 := by kernel_rfl
 unfold Lib.TabIs World.var?
 rw [hg]
 simp only [Option.bind_some, e]
theorem decDigits_eq (n : Nat) : Lib.decDigits n = decN n := by
 induction n using Nat.strongRecOn with
 | ind n ih =>
  rw [Lib.decDigits, decN_eq]
  split
  ·rfl
  ·rw [ih _ (by omega)]
theorem itoa_eq (n : Int) : Lib.itoa n = decI n := by
 unfold Lib.itoa decI
 split <;> rw [decDigits_eq]
theorem bitLen_eq (n : Nat) (h : n < 4294967296) : Lib.bitLen n = blen n := by
 by_cases h0 : n = 0
 ·subst h0; rfl
 ·obtain ⟨a, b, c⟩ := Lib.bitLenAux_bounds 64 n (by omega) h0
  have hb : Lib.bitLen n = Lib.bitLenAux 64 n := rfl
  rw [hb]
  have := blen_eq (n := n) (k := Lib.bitLenAux 64 n - 1) b (by rw [Nat.sub_add_cancel a]; exact c)
  omega
theorem trimRight_good {args : List V} {S : List Ob} {o : Out} (h : trimRightExt args S = some o) : GoodCall Tryz.prog 117 args S o := by
 unfold trimRightExt at h
 split at h
 ·rename_i x c
  split at h
  ·rename_i hc
   injection h with h; subst h
   refine good_data (v := .string ⟨(Lib.trimRightB x c).toArray⟩) Tryz.func117 (by kernel_rfl) (fun F => by simp only [RD]; rfl) fun w G vs hI hr => ?_
   obtain ⟨v, u, rfl, h1, h2⟩ := vs_two hr
   simp only [RV, RD] at h1 h2
   subst h1; subst h2
   have hs : (⟨x.toArray⟩ : ByteArray).size ≤ 9223372036854775807 := by
    show x.toArray.size ≤ _
    simp; omega
   exact (Tryz.strings_TrimRight_one ⟨x.toArray⟩ c hc.1 w hs).mono fun e w' h => ⟨h.1, .inl h.2⟩
  ·cases h
 ·cases h
theorem good_val {k : Nat} {args : List V} {S : List Ob} {x : V} {v : Value} {fn : Func} (hf : Tryz.prog.funcs[k]? = some fn) (hb : fn.body.isSome = true) (hx : ∀ G, RV G x v)
  (h : ∀ w G vs, Inv w G S → RVs G args vs.toList → Calls Tryz.prog k vs w fun e w' => e = .returned v ∧ Below w.heap.size w w') : GoodCall Tryz.prog k args S (x, S) := by
 refine GoodCall.of_below fun w G vs hI hr => ?_
 refine Answers.of_calls hf hb (hname k fn hf) ((h w G vs hI hr).mono ?_)
 rintro e w' ⟨rfl, hw⟩
 exact ⟨v, rfl, hw, hx _⟩
theorem tabs_in {w : World} {G : Sg} {S : List Ob} (hI : Inv w G S) : TabsIn w := fun b p hp => (hI.tb b p hp).1
theorem max_in {w : World} {G : Sg} {S : List Ob} (hI : Inv w G S) : ∃ m : Int, w.cell? ⟨1, 0, none⟩ = some (.int .i64 m) := by
 obtain ⟨⟨arr, x, y, e, m, rfl⟩, _⟩ := hI.tb 1 _ rfl
 exact ⟨m, by simp [World.cell?, e]⟩
theorem Tryz.strings_TrimLeft_set (s : ByteArray) (w : World) :
  Calls Tryz.prog 183 #[.string s, .string ⟨#[43, 45]⟩] w fun e w' => e = .returned (.string ⟨(Lib.trimLeftS s.data.toList [43, 45]).toArray⟩) ∧ Below w.heap.size w w' :=
 Any.strings_TrimLeft_laid Go.Proofs.Tryz.lays161 (by kernel_rfl) s ⟨#[43, 45]⟩ w (by decide) (ascii_of_all (by decide))
theorem trimLeft_good {args : List V} {S : List Ob} {o : Out} (h : trimLeftExt args S = some o) : GoodCall Tryz.prog 183 args S o := by
 unfold trimLeftExt at h
 split at h
 ·rename_i x c
  split at h
  ·rename_i hc
   injection h with h; subst h
   refine good_data (v := .string ⟨(Lib.trimLeftB x c).toArray⟩) Tryz.func183 (by kernel_rfl) (fun F => by simp only [RD]; rfl) fun w G vs hI hr => ?_
   obtain ⟨v, u, rfl, h1, h2⟩ := vs_two hr
   simp only [RV, RD] at h1 h2
   subst h1; subst h2
   exact (Tryz.strings_TrimLeft_one ⟨x.toArray⟩ c hc w).mono fun e w' h => ⟨h.1, .inl h.2⟩
  ·cases h
 ·rename_i x
  split at h
  ·rename_i hc
   injection h with h; subst h
   refine good_val (v := .string ⟨(Lib.trimLeftS x [43, 45]).toArray⟩) Tryz.func183 (by kernel_rfl) (fun G => ?_) fun w G vs hI hr => ?_
   ·simp only [RV, RD]
    have e : Lib.trimLeftS x [43, 45] = x.dropWhile fun c => c == 43 || c == 45 := by
     unfold Lib.trimLeftS
     congr 1
     funext c
     rw [Bool.eq_iff_iff, List.contains_iff_mem]
     simp
    rw [e]
   ·obtain ⟨v, u, rfl, h1, h2⟩ := vs_two hr
    simp only [RV, RD] at h1 h2
    subst h1; subst h2
    exact Dec.Tryz.strings_TrimLeft_set ⟨x.toArray⟩ w
  ·cases h
 ·cases h
theorem find_index (t : List UInt8) : ∀ x : List UInt8, Lib.index x t = idxV (findSub t x)
 | [] => by
  unfold Lib.index findSub
  cases t <;> rfl
 | c :: r => by
  have ih := find_index t r
  unfold Lib.index findSub
  rw [ih]
  cases h : t.isPrefixOf (c :: r) with
  | true => rfl
  | false =>
   rw [if_neg (show ¬ (false = true) by decide), if_neg (show ¬ (false = true) by decide)]
   cases findSub t r with
   | none => rfl
   | some n =>
    have hn : ((n : Int) == -1) = false := beq_eq_false_iff_ne.2 (by omega)
    show (if ((n : Int) == -1) = true then (-1 : Int) else (n : Int) + 1) = _
    rw [hn, if_neg (by decide)]
    show _ = ((n + 1 : Nat) : Int)
    omega
theorem find_contains (t x : List UInt8) : Lib.contains x t = (findSub t x).isSome := by
 unfold Lib.contains
 rw [find_index]
 cases findSub t x with
 | none => rfl
 | some n => exact decide_eq_true (Int.natCast_nonneg n)
theorem find_byte (c : UInt8) : ∀ x : List UInt8, Lib.indexByte x c = idxV (x.findIdx? fun d => d == c)
 | [] => rfl
 | d :: r => by
  have ih := find_byte c r
  unfold Lib.indexByte
  rw [ih, List.findIdx?_cons]
  cases h : d == c with
  | true => rfl
  | false =>
   rw [if_neg (show ¬ (false = true) by decide), if_neg (show ¬ (false = true) by decide)]
   cases r.findIdx? (fun d => d == c) with
   | none => rfl
   | some n =>
    have hn : ((n : Int) == -1) = false := beq_eq_false_iff_ne.2 (by omega)
    show (if ((n : Int) == -1) = true then (-1 : Int) else (n : Int) + 1) = _
    rw [hn, if_neg (by decide)]
    show _ = ((n + 1 : Nat) : Int)
    omega
theorem size_of (x : List UInt8) (h : x.length ≤ 100000) : (⟨x.toArray⟩ : ByteArray).size < 4294967281 := by
 show x.toArray.size < _
 simp; omega
theorem contains_good {args : List V} {S : List Ob} {o : Out} (h : containsExt args S = some o) : GoodCall Tryz.prog 57 args S o := by
 unfold containsExt at h
 split at h
 ·rename_i x t
  split at h
  ·rename_i hc
   injection h with h; subst h
   refine good_data (v := .bool (Lib.contains x t)) Tryz.func57 (by kernel_rfl) (fun F => by simp only [RD]; rw [find_contains]) fun w G vs hI hr => ?_
   obtain ⟨v, u, rfl, h1, h2⟩ := vs_two hr
   simp only [RV, RD] at h1 h2
   subst h1; subst h2
   obtain ⟨m, hm⟩ := max_in hI
   exact (Tryz.strings_Contains ⟨x.toArray⟩ ⟨t.toArray⟩ m w (size_of x hc.1) hm).mono fun e w' h => ⟨h.1, .inl h.2⟩
  ·cases h
 ·cases h
theorem index_good {args : List V} {S : List Ob} {o : Out} (h : indexExt args S = some o) : GoodCall Tryz.prog 123 args S o := by
 unfold indexExt at h
 split at h
 ·rename_i x t
  split at h
  ·rename_i hc
   injection h with h; subst h
   refine good_data (v := .int .i64 (Lib.index x t)) Tryz.func123 (by kernel_rfl) (fun F => by simp only [RD]; rw [find_index]) fun w G vs hI hr => ?_
   obtain ⟨v, u, rfl, h1, h2⟩ := vs_two hr
   simp only [RV, RD] at h1 h2
   subst h1; subst h2
   obtain ⟨m, hm⟩ := max_in hI
   exact (Tryz.strings_Index ⟨x.toArray⟩ ⟨t.toArray⟩ m w (size_of x hc.1) hm).mono fun e w' h => ⟨h.1, .inl h.2⟩
  ·cases h
 ·cases h
theorem indexByte_good {args : List V} {S : List Ob} {o : Out} (h : indexByteExt args S = some o) : GoodCall Tryz.prog 85 args S o := by
 unfold indexByteExt at h
 split at h
 ·rename_i x c
  split at h
  ·rename_i hc
   injection h with h; subst h
   refine good_data (v := .int .i64 (Lib.indexByte x (UInt8.ofNat c.toNat))) Tryz.func85 (by kernel_rfl) (fun F => by simp only [RD]; rw [find_byte]) fun w G vs hI hr => ?_
   obtain ⟨v, u, rfl, h1, h2⟩ := vs_two hr
   simp only [RV, RD] at h1 h2
   subst h1; subst h2
   exact (Tryz.strings_IndexByte ⟨x.toArray⟩ c w).mono fun e w' h => ⟨h.1, .inl h.2⟩
  ·cases h
 ·cases h
theorem suffix_good {args : List V} {S : List Ob} {o : Out} (h : suffixExt args S = some o) : GoodCall Tryz.prog 138 args S o := by
 unfold suffixExt at h
 split at h
 ·rename_i x t
  split at h
  ·rename_i hc
   injection h with h; subst h
   refine good_data (v := .bool (Lib.hasSuffix x t)) Tryz.func138 (by kernel_rfl) (fun F => by simp only [RD]; rfl) fun w G vs hI hr => ?_
   obtain ⟨v, u, rfl, h1, h2⟩ := vs_two hr
   simp only [RV, RD] at h1 h2
   subst h1; subst h2
   have := size_of x hc.1
   exact (Tryz.strings_HasSuffix ⟨x.toArray⟩ ⟨t.toArray⟩ w (by omega)).mono fun e w' h => ⟨h.1, .inl h.2⟩
  ·cases h
 ·cases h
theorem extU : ExtOk Tryz.prog polU := by
 intro k g hg; simp [polU] at hg
theorem inner_pu (s : List UInt8) (hne : s ≠ []) (hl : s.length ≤ 16) (hd : ∀ c ∈ s, isHex c = true) (w : World) (hT : TabsIn w) :
  Calls Tryz.prog 207 #[.string ⟨s.toArray⟩, .int .i64 16, .int .i64 64] w fun e w' => e = .returned (.tuple #[.int .u64 ((hexV s : Nat) : Int), .nilIface]) ∧ Below w.heap.size w w' := by
 have hg := run_good mixed extU hname (rk_run (pu_s s hne hl hd)) w (startG w) #[.string ⟨s.toArray⟩, .int .i64 16, .int .i64 64] (startInv w hT)
  (by simp only [RVs]; exact ⟨_, _, rfl, rfl, _, _, rfl, rfl, _, _, rfl, rfl, rfl⟩) (fun b q => by simp [startG])
 refine Calls.mono (hg.calls Tryz.func207 (by kernel_rfl) (hname 207 _ Tryz.func207)) ?_
 rintro e w' ⟨y, rfl, G', h1, h2, h3⟩
 refine ⟨?_, h3.os, h3.tape, h3.output, h3.size, fun b hb => (h3.keep b hb (.inl (by simp [startG]))).2.1⟩
 simp only [RV, RVs, RD] at h1
 obtain ⟨vs, rfl, v1, r1, e1, rfl, v2, r2, e2, rfl, rfl⟩ := h1
 subst e2
 refine congrArg (fun x => Ending.returned (Value.tuple x)) (Array.ext' e1)
theorem Tryz.strconv_ParseUint_16 (s : List UInt8) (hne : s ≠ []) (hl : s.length ≤ 16) (hd : ∀ c ∈ s, isHex c = true) (w : World) (hT : TabsIn w) :
  Calls Tryz.prog 182 #[.string ⟨s.toArray⟩, .int .i64 16, .int .i64 64] w fun e w' => e = .returned (.tuple #[.int .u64 ((hexV s : Nat) : Int), .nilIface]) ∧ Below w.heap.size w w' := by
 go_enter Go.Proofs.Tryz.func182, Go.Proofs.Tryz.ntmps182
 go_wp2_with (go_at_call 207; refine (inner_pu s hne hl hd _ hT).mono ?_; rintro e w' ⟨rfl, hw⟩)
 go_ret2
 exact ⟨rfl, hw⟩
theorem parseHex_good {args : List V} {S : List Ob} {o : Out} (h : parseHexExt args S = some o) : GoodCall Tryz.prog 182 args S o := by
 unfold parseHexExt at h
 split at h
 ·rename_i x b z
  split at h
  ·rename_i hc
   injection h with h; subst h
   obtain ⟨rfl, rfl, hne, hl, hd⟩ := hc
   refine good_val (v := .tuple #[.int .u64 ((hexV x : Nat) : Int), .nilIface]) Tryz.func182 (by kernel_rfl) (fun G => ?_) fun w G vs hI hr => ?_
   ·simp only [RV, RVs, RD]
    exact ⟨_, rfl, _, _, rfl, rfl, _, _, rfl, rfl, rfl⟩
   ·obtain ⟨v, hv, h1⟩ := RVs.get hr (i := 0) rfl
    obtain ⟨u, hu, h2⟩ := RVs.get hr (i := 1) rfl
    obtain ⟨y, hy, h3⟩ := RVs.get hr (i := 2) rfl
    have hlen := RVs.length hr
    simp only [RV, RD] at h1 h2 h3
    subst h1; subst h2; subst h3
    have e : vs = #[.string ⟨x.toArray⟩, .int .i64 16, .int .i64 64] := by
     apply Array.ext'
     match hvs : vs.toList, hlen, hv, hu, hy with
     | [a, b, c], _, hv, hu, hy => simp at hv hu hy; subst hv; subst hu; subst hy; rfl
    rw [e]
    exact Dec.Tryz.strconv_ParseUint_16 x hne hl (fun c h => List.all_eq_true.1 hd c h) w (tabs_in hI)
  ·cases h
 ·cases h
theorem itoa_good {args : List V} {S : List Ob} {o : Out} (h : itoaExt args S = some o) : GoodCall Tryz.prog 118 args S o := by
 unfold itoaExt at h
 split at h
 ·rename_i n
  split at h
  ·rename_i hc
   injection h with h; subst h
   refine good_data (v := .string ⟨(Lib.itoa n).toArray⟩) Tryz.func118 (by kernel_rfl) (fun F => by simp only [RD]; rw [itoa_eq]) fun w G vs hI hr => ?_
   obtain ⟨v, rfl, h1⟩ := vs_one hr
   simp only [RV, RD] at h1
   subst h1
   exact (Tryz.strconv_Itoa n (by omega) (by omega) w (tab_is hI)).mono fun e w' h => ⟨h.1, .inr h.2⟩
  ·cases h
 ·cases h
theorem fmtUint_good {args : List V} {S : List Ob} {o : Out} (h : fmtUintExt args S = some o) : GoodCall Tryz.prog 167 args S o := by
 unfold fmtUintExt at h
 split at h
 ·rename_i n b
  split at h
  ·rename_i hc
   injection h with h; subst h
   obtain ⟨rfl, hc1, hc2⟩ := hc
   refine good_data (v := .string ⟨(Lib.decDigits n.toNat).toArray⟩) Tryz.func167 (by kernel_rfl) (fun F => by simp only [RD]; rw [decDigits_eq]) fun w G vs hI hr => ?_
   obtain ⟨v, u, rfl, h1, h2⟩ := vs_two hr
   simp only [RV, RD] at h1 h2
   subst h1; subst h2
   have e : n = ((n.toNat : Nat) : Int) := by omega
   have := Tryz.strconv_FormatUint_10 n.toNat (by omega) w (tab_is hI)
   rw [← e] at this
   exact this.mono fun e w' h => ⟨h.1, .inr h.2⟩
  ·cases h
 ·cases h
theorem len32_good {args : List V} {S : List Ob} {o : Out} (h : len32Ext args S = some o) : GoodCall Tryz.prog 163 args S o := by
 unfold len32Ext at h
 split at h
 ·rename_i n
  split at h
  ·rename_i hc
   injection h with h; subst h
   refine good_data (v := .int .i64 (Lib.bitLen n.toNat)) Tryz.func163 (by kernel_rfl) (fun F => by simp only [RD]; rw [bitLen_eq _ (by omega)]) fun w G vs hI hr => ?_
   obtain ⟨v, rfl, h1⟩ := vs_one hr
   simp only [RV, RD] at h1
   subst h1
   exact (Tryz.bits_Len32 n w (by omega) (by omega)).mono fun e w' h => ⟨h.1, .inl h.2⟩
  ·cases h
 ·cases h
theorem unInts_of {xs : List D} {a : List Int} (h : unInts .u32 xs = some a) : xs = ints .u32 a := by
 induction xs generalizing a with
 | nil => simp [unInts] at h; subst h; rfl
 | cons x xs ih =>
  cases x <;> simp only [unInts] at h <;> try (cases h)
  rename_i j n
  split at h
  ·rename_i e; subst e
   obtain ⟨l, hl, rfl⟩ := Option.map_eq_some_iff.1 h
   rw [ih hl]; rfl
  ·cases h
theorem unCells_of {xs : List V} {a : List Int} (h : unCellsU xs = some a) : xs = cellsOf a := by
 induction xs generalizing a with
 | nil => simp [unCellsU] at h; subst h; rfl
 | cons x xs ih =>
  unfold unCellsU at h
  split at h
  ·rename_i e; cases e
  ·rename_i e; injection e with e1 e2; subst e1; subst e2
   obtain ⟨l, hl, rfl⟩ := Option.map_eq_some_iff.1 h
   rw [ih hl]; rfl
  ·cases h
theorem okU_u {a : List Int} (h : okU a = true) : U32 a ∧ a.length ≤ 100000 := by
 simp only [okU, Bool.and_eq_true, decide_eq_true_eq, List.all_eq_true] at h
 exact ⟨fun z hz => by have := h.1 z hz; exact this, h.2⟩
theorem extA : ExtOk Tryz.prog polA := by
 intro k g hg; simp [polA] at hg
theorem extC : ExtOk Tryz.prog polC := by
 intro k g hg; simp [polC] at hg
theorem cutS_good {args : List V} {S : List Ob} {o : Out} (h : cutExtS args S = some o) : GoodCall Tryz.prog 162 args S o := by
 unfold cutExtS at h
 split at h
 ·rename_i b xs
  split at h
  ·rename_i a ha
   split at h
   ·rename_i hok
    injection h with h; subst h
    obtain ⟨hu, hl⟩ := okU_u hok
    rw [unInts_of ha]
    have := cutC_run b a hu (by omega)
    exact run_good mixed extC hname (rk_run (by rw [this]; simp [cellsU, cellsOf, ints]))
   ·cases h
  ·cases h
 ·rename_i n cs
  split at h
  ·rename_i a ha
   split at h
   ·rename_i hok
    injection h with h; subst h
    obtain ⟨rfl, hok⟩ := hok
    obtain ⟨hu, hl⟩ := okU_u hok
    rw [unCells_of ha]
    exact run_good mixed extA hname (rk_run (cutA_run a hu (by omega)))
   ·cases h
  ·cases h
 ·cases h
theorem cmpS_good {args : List V} {S : List Ob} {o : Out} (h : cmpExtS args S = some o) : GoodCall Tryz.prog 164 args S o := by
 unfold cmpExtS at h
 split at h
 ·rename_i n m ds cs
  split at h
  ·rename_i a b ha hb
   split at h
   ·rename_i hok
    injection h with h; subst h
    obtain ⟨rfl, rfl, hok1, hok2⟩ := hok
    obtain ⟨hu1, hl1⟩ := okU_u hok1
    obtain ⟨hu2, hl2⟩ := okU_u hok2
    rw [unCells_of ha, unCells_of hb]
    exact run_good mixed extA hname (rk_run (cmpA_run a b hu1 hu2 hl1 hl2))
   ·cases h
  ·cases h
 ·cases h
theorem extS_ok : ExtOk Tryz.prog polS := by
 intro k g hg args S o ho
 simp only [polS, extS] at hg
 split at hg
 ·injection hg with hg; subst hg; exact cutS_good ho
 ·injection hg with hg; subst hg; exact cmpS_good ho
 ·cases hg
theorem sub_good {args : List V} {S : List Ob} {o : Out} (h : subExt args S = some o) : GoodCall Tryz.prog 218 args S o := by
 unfold subExt at h
 split at h
 ·rename_i b xs c ys
  split at h
  ·rename_i a e ha he
   split at h
   ·rename_i hok
    injection h with h; subst h
    obtain ⟨h1, h2, h3, h4⟩ := hok
    have u1 : U32 a := fun z hz => by have := List.all_eq_true.1 h1 z hz; simpa using this
    have u2 : U32 e := fun z hz => by have := List.all_eq_true.1 h2 z hz; simpa using this
    rw [unInts_of ha, unInts_of he]
    exact run_good mixed extS_ok hname (rk_run (sub_run b c a e u1 u2 h3 h4))
   ·cases h
  ·cases h
 ·cases h
theorem extOk : ExtOk Tryz.prog pol := by
 intro k g hg args S o ho
 simp only [pol, ext] at hg
 split at hg
 ·injection hg with hg; subst hg; exact trimRight_good ho
 ·injection hg with hg; subst hg; exact trimLeft_good ho
 ·injection hg with hg; subst hg; exact itoa_good ho
 ·injection hg with hg; subst hg; exact fmtUint_good ho
 ·injection hg with hg; subst hg; exact len32_good ho
 ·injection hg with hg; subst hg; exact sub_good ho
 ·injection hg with hg; subst hg; exact contains_good ho
 ·injection hg with hg; subst hg; exact index_good ho
 ·injection hg with hg; subst hg; exact indexByte_good ho
 ·injection hg with hg; subst hg; exact suffix_good ho
 ·injection hg with hg; subst hg; exact parseHex_good ho
 ·cases hg
end Go.Dn.Dec
namespace Go.Dn.Dec
open Go.Proofs Go.Proofs.YtbjllhjbhdjfjaaGreatDoor Go.RowKit
set_option maxRecDepth 100000
def laid5 : List (String × DataW Unit) := [("math/bits.deBruijn32tab", Rows.laid_math_bits_deBruijn32tab), ("math/bits.deBruijn64tab", Rows.laid_math_bits_deBruijn64tab), ("internal/strconv.uint64pow10", Rows.laid_internal_strconv_uint64pow10), ("unicode/utf8.acceptRanges", Rows.laid_unicode_utf8_acceptRanges), ("unicode/utf8.first", Rows.laid_unicode_utf8_first)]
theorem pow10_eq : (Rows.laid_internal_strconv_uint64pow10 : DataW Unit) = Lib.tabData .u64 Lib.pow10Tab := by kernel_rfl
theorem max_of {W : World} (h : W.ShapedOpen Tryz.prog) : ∃ m, W.cell? ⟨1, 0, none⟩ = some (.int .i64 m) :=
 cell_of_shapedOpen_int (g := 1) (t := 3) (zero := #[.int .i64 0]) h (by decide) (by kernel_rfl) rfl (by kernel_rfl) (by kernel_rfl) Tryz.underlying3
theorem tabs_tail {W : World} {r : List (String × DataW Unit)} (hs : W.ShapedOpen Tryz.prog) (h3 : laidMet Tryz.prog (("internal/strconv.uint64pow10", Rows.laid_internal_strconv_uint64pow10) :: r) W) : TabsIn W := by
 rw [pow10_eq] at h3
 have ht : Lib.TabIs Tryz.prog W "internal/strconv.uint64pow10" .u64 Lib.pow10Tab :=
  Lib.tabIs_of_head (g := 0) (t := 214) (e := 49) (n := 20) (by kernel_rfl) (by kernel_rfl) Tryz.underlying214 Tryz.underlying49 (by kernel_rfl) (by kernel_rfl) h3
 intro b p hb
 unfold theTab at hb
 split at hb
 ·rename_i e; subst e
  injection hb with hb; subst hb
  have hg : Tryz.prog.globalNamed "internal/strconv.uint64pow10" = some 0 := by kernel_rfl
  unfold Lib.TabIs World.var? at ht
  rw [hg] at ht
  simp only [Option.bind_some] at ht
  split at ht
  ·rename_i cs x y hc
   injection ht with ht; subst ht
   exact ⟨_, x, y, hc, rfl⟩
  ·cases ht
 ·split at hb
  ·rename_i e; subst e
   injection hb with hb; subst hb
   obtain ⟨cs, hh, hsz, _⟩ := hs.1 1 #[.int .i64 0] 3 (by decide) (by kernel_rfl)
   obtain ⟨m, hm⟩ := max_of hs
   have hsz1 : cs.size = 1 := hsz
   have h1 : 0 < cs.size := by omega
   have hcell : W.cell? ⟨1, 0, none⟩ = some cs[0] := by simp [World.cell?, hh, h1]
   rw [hcell] at hm
   refine ⟨cs, 3, _, hh, m, ?_⟩
   apply Array.ext
   ·exact hsz1
   ·intro i hi1 hi2
    have : i = 0 := by omega
    subst this
    exact Option.some.inj hm
  ·cases hb
theorem returns_laid_shaped {H : Type} {enc : TypeId × Value → H} {C : Checked} {os : Os} {f : FuncId} {fn : Func} {s : ChangeSpec} {conds : List PathCond} {apart fresh handsOn again : Bool} {X : World → Array Value → Prop}
  (hX : ∀ (w w' : World) (args : Array Value), w.heap = w'.heap → X w args → X w' args)
  (own : ownKnob C.prog.godebug = none) (started : os.Started) (noInit : C.prog.inits.idxOf? f = none) (hfn : C.prog.funcs[f]? = some fn)
  (witness : ∃ (w : World) (tape : Tape) (i : Input), w.os = os ∧ (w.forCall tape i).Shaped C.prog ∧ i.vars = [] ∧ Input.okWide C.prog (w.forCall tape i) .any w.heap.size f i ∧
   ((s.pre enc C.prog fn conds apart (w.forCall tape i).memory i.args ∧ X (w.forCall tape i).memory i.args) ∧ sizedMet enc C.prog fn (OpenSpec.ofChange s) apart (w.forCall tape i).memory i.args) ∧ Assume.holds {} C.prog (lone (Frame.enter C.prog f i.args .normal) [] (w.forCall tape i)))
  (walk : ∀ (W : World) (base : Nat) (args : Array Value) (ds gs : List (DataW H)) (before : List MemPlace),
   (∀ (j : Nat) t v, fn.params[j]? = some t → args[j]? = some v → Value.okWide C.prog W .any base t v) →
   DataW.Whole enc C.prog fn.params.toList s.vars apart W args.toList ds gs before → X W args → W.ShapedOpen C.prog →
   Calls C.prog f args W fun e W' => ∃ v, e = .returned v ∧ s.post enc C.prog fn apart fresh handsOn again W args v W') :
  ReturnsInHanded {} C os f .any (fun w args => (s.pre enc C.prog fn conds apart w args ∧ X w args) ∧ sizedMet enc C.prog fn (OpenSpec.ofChange s) apart w args) (s.post enc C.prog fn apart fresh handsOn again) := by
 refine returnsInHanded_of_calls own started noInit witness fun w tape i _ hsh _ hok hpre _ => ?_
 obtain ⟨⟨⟨ds, gs, before, hw, _⟩, hx⟩, _⟩ := hpre
 obtain ⟨_, _, _, fn', hfn', _, _, _, _, hval⟩ := hok
 rw [hfn] at hfn'
 cases hfn'
 refine (walk (w.forCall tape i) w.heap.size i.args ds gs before hval (DataW.Whole.of_heap (w' := w.forCall tape i) (by rfl) hw) (hX _ (w.forCall tape i) _ (by rfl) hx) hsh).mono fun e W' h => ?_
 obtain ⟨v, rfl, hp⟩ := h
 exact ChangeSpec.post_blind hp
theorem tabs_of5 {W : World} (hs : W.ShapedOpen Tryz.prog) (h : laidMetH Tryz.prog laid5 W) : TabsIn W := by
 rw [MakeChecks.laidMetH_plain _ _ _ (by kernel_rfl)] at h
 exact tabs_tail hs h.tail.tail
end Go.Dn.Dec
