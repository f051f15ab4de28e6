/- strconv.ParseUint at base 16: the policy by which its inner function is read. -/
import Derived.Test.YtbjllhjbhdjfjaaDoorCe1
import Derived.Test.YtbjllhjbhdjfjaaDoorDn4
import Derived.KernelRfl
import Derived.Test.YtbjllhjbhdjfjaaDoorCe2
import Derived.Shelf.Strings.Trim
import Derived.Shelf.Small.Bits
import Derived.Shelf.Small.Strs
import Derived.Shelf.Strconv.Itoa0
import Derived.Shelf.Strconv.Itoa1
import Derived.Shelf.LaysM
import Derived.Shelf.Strconv.Itoa2
import Derived.Shelf.Strconv.Itoa3
import Derived.Shelf.Strings.Search1
import Derived.Shelf.Strings.Search2
import Derived.Shelf.Strings.Search3
import Derived.Shelf.Strings.Prefix
import Derived.Test.YtbjllhjbhdjfjaaDoorProg
import Derived.WalkKit
import Derived.WalkSpells
import Derived.WalkLawsBesides
import Derived.Lib.AppendIntMem
import Derived.Shelf.Strings.SlTrimAscii
import Derived.Test.YtbjllhjbhdjfjaaDoorRows
import Derived.Lib.LaidTab
import Derived.Stop.LaidErr
import Derived.Shelf.Vars
import Derived.Handed
import Derived.ProofKit
import Derived.OpenShut
import Derived.LaidMore
import Derived.Lay
namespace Go.Dn.Dec
def cutU (k : Nat) (p : List Bool) : Option (List Nat) :=
  if k = 122 then [(207, [0, 1, 2, 8, 9, 25]), (52687, [0, 2, 8, 9, 40]), (249295, [0, 2, 8, 9, 52]), (1035727, [0, 2, 8, 9, 64]), (991, [0, 1, 2, 8, 9, 83]), (127, [0, 1, 2, 8, 9]), (511, [0, 1, 2, 8, 9, 10]),
    (22527, [1, 8, 9, 10, 11, 12, 13, 99, 100, 101]), (26843135, [1, 8, 9, 10, 11, 12, 13, 15, 99, 100, 101, 106]), (127506431, [1, 8, 9, 10, 11, 12, 13, 15, 99, 100, 101, 112]),
    (530159615, [1, 8, 9, 10, 11, 12, 13, 15, 99, 100, 101, 121]), (469342207, [1, 8, 9, 10, 11, 12, 17, 99, 100, 101, 159]), (28671, [13, 169])].lookup (p.foldl (fun n b => 2 * n + b.toNat) 1) else none
def polU : Pol := { cut := cutU, app := fun k _ _ => if k = 122 then 0 else 2, flg := fun _ _ _ => [], ext := fun _ => none }
end Go.Dn.Dec
namespace Go.Dn.Dec
open Go.Proofs
theorem u122 (s : List UInt8) :
    rk Tryd.prog polU (Task.call 122 [V.d (D.s s), V.d (D.i IntKind.i64 16), V.d (D.i IntKind.i64 64)] []) = interp (rk Tryd.prog polU) (
brB (s == []) Tr.fail
  (Tr.call
    (Task.at_ 122 0 [true, false, false, true, true, true, true]
      (sv 172 [(0, V.d (D.s s)), (1, V.d (D.i IntKind.i64 16)), (2, V.d (D.i IntKind.i64 64)), (8, V.d (D.b false)), (9, V.d (D.s s)), (25, V.d (D.b true))]) [] [])
    Tr.ret)) :=
  rk_of (by kernel_rfl)
theorem u133 (c : Int) :
    rk Tryd.prog polU (Task.call 133 [V.d (D.i IntKind.u8 c)] []) = interp (rk Tryd.prog polU) (
Tr.ret (V.d (D.i IntKind.u8 (IntKind.u8.wrap (↑(BitVec.ofInt IntKind.u8.bits c ||| BitVec.ofInt IntKind.u8.bits 32).toNat : Int))), [])) :=
  rk_of (by kernel_rfl)
theorem u122_at207 (l_0 : List UInt8) (n_1 : Int) (n_2 : Int) (b_3 : Bool) (l_4 : List UInt8) (b_5 : Bool) :
    rk Tryd.prog polU (Task.at_ 122 0 [true, false, false, true, true, true, true]
  (sv 172 [(0, V.d (D.s l_0)), (1, V.d (D.i IntKind.i64 n_1)), (2, V.d (D.i IntKind.i64 n_2)), (8, V.d (D.b b_3)), (9, V.d (D.s l_4)), (25, V.d (D.b b_5))]) [] []) = interp (rk Tryd.prog polU) (
brB b_5
  (brB (n_2 == 0)
    (Tr.call
      (Task.at_ 122 0 [true, true, true, true, true, true] (sv 172 [(0, V.d (D.s l_0)), (1, V.d (D.i IntKind.i64 n_1)), (2, V.d (D.i IntKind.i64 64)), (8, V.d (D.b b_3)), (9, V.d (D.s l_4))]) [] [])
      Tr.ret)
    (brB (decide (n_2 < 0))
      (Tr.call
        (Task.at_ 122 0 [true, true, true, false, true, true, true, true, true]
          (sv 172 [(0, V.d (D.s l_0)), (1, V.d (D.i IntKind.i64 n_1)), (2, V.d (D.i IntKind.i64 n_2)), (8, V.d (D.b b_3)), (9, V.d (D.s l_4)), (83, V.d (D.b true))]) [] [])
        Tr.ret)
      (Tr.call
        (Task.at_ 122 0 [true, true, true, false, true, true, true, true, true]
          (sv 172 [(0, V.d (D.s l_0)), (1, V.d (D.i IntKind.i64 n_1)), (2, V.d (D.i IntKind.i64 n_2)), (8, V.d (D.b b_3)), (9, V.d (D.s l_4)), (83, V.d (D.b (decide (n_2 > 64))))]) [] [])
        Tr.ret)))
  (brB (n_1 == 0)
    (ob (getI l_0 0) fun (c_0 : UInt8) =>
      brB ((↑c_0.toNat : Int) == 48)
        (brB (decide ((↑l_0.length : Int) ≥ 3))
          (ob (getI l_0 1) fun (c_1 : UInt8) =>
            Tr.call (Task.call 133 [V.d (D.i IntKind.u8 (↑c_1.toNat : Int))] []) fun (o_2 : Out) =>
              ift o_2.snd.isEmpty
                (asD o_2.fst fun (d_3 : D) =>
                  asI IntKind.u8 d_3 fun (n_4 : Int) =>
                    Tr.call
                      (Task.at_ 122 0 [true, false, false, true, true, false, true, true, true, false, false, true, true, true, true]
                        (sv 172 [(0, V.d (D.s l_0)), (2, V.d (D.i IntKind.i64 n_2)), (8, V.d (D.b b_3)), (9, V.d (D.s l_4)), (40, V.d (D.b (n_4 == 98)))]) [] [])
                      Tr.ret))
          (Tr.call
            (Task.at_ 122 0 [true, false, false, true, true, false, true, true, true, false, false, true, true, true, true]
              (sv 172 [(0, V.d (D.s l_0)), (2, V.d (D.i IntKind.i64 n_2)), (8, V.d (D.b b_3)), (9, V.d (D.s l_4)), (40, V.d (D.b false))]) [] [])
            Tr.ret))
        (brB (n_2 == 0)
          (Tr.call
            (Task.at_ 122 0 [true, true, true, true, true, true] (sv 172 [(0, V.d (D.s l_0)), (1, V.d (D.i IntKind.i64 10)), (2, V.d (D.i IntKind.i64 64)), (8, V.d (D.b b_3)), (9, V.d (D.s l_4))]) []
              [])
            Tr.ret)
          (brB (decide (n_2 < 0))
            (Tr.call
              (Task.at_ 122 0 [true, true, true, false, true, true, true, true, true]
                (sv 172 [(0, V.d (D.s l_0)), (1, V.d (D.i IntKind.i64 10)), (2, V.d (D.i IntKind.i64 n_2)), (8, V.d (D.b b_3)), (9, V.d (D.s l_4)), (83, V.d (D.b true))]) [] [])
              Tr.ret)
            (Tr.call
              (Task.at_ 122 0 [true, true, true, false, true, true, true, true, true]
                (sv 172 [(0, V.d (D.s l_0)), (1, V.d (D.i IntKind.i64 10)), (2, V.d (D.i IntKind.i64 n_2)), (8, V.d (D.b b_3)), (9, V.d (D.s l_4)), (83, V.d (D.b (decide (n_2 > 64))))]) [] [])
              Tr.ret))))
    Tr.fail)) :=
  rk_of (by kernel_rfl)
theorem u122_at127 (l_0 : List UInt8) (n_1 : Int) (n_2 : Int) (b_3 : Bool) (l_4 : List UInt8) :
    rk Tryd.prog polU (Task.at_ 122 0 [true, true, true, true, true, true] (sv 172 [(0, V.d (D.s l_0)), (1, V.d (D.i IntKind.i64 n_1)), (2, V.d (D.i IntKind.i64 n_2)), (8, V.d (D.b b_3)), (9, V.d (D.s l_4))]) [] []) = interp (rk Tryd.prog polU) (
brB (n_1 == 10)
  (Tr.call
    (Task.at_ 122 0 [true, true, true, true, true, true, true, true]
      (sv 172 [(0, V.d (D.s l_0)), (1, V.d (D.i IntKind.i64 n_1)), (2, V.d (D.i IntKind.i64 n_2)), (8, V.d (D.b b_3)), (9, V.d (D.s l_4)), (10, V.d (D.i IntKind.u64 1844674407370955162))]) [] [])
    Tr.ret)
  (brB (n_1 == 16)
    (Tr.call
      (Task.at_ 122 0 [true, true, true, true, true, true, true, true]
        (sv 172 [(0, V.d (D.s l_0)), (1, V.d (D.i IntKind.i64 n_1)), (2, V.d (D.i IntKind.i64 n_2)), (8, V.d (D.b b_3)), (9, V.d (D.s l_4)), (10, V.d (D.i IntKind.u64 1152921504606846976))]) [] [])
      Tr.ret)
    (ift (decide (IntKind.u64.wrap n_1 ≠ 0))
      (Tr.call
        (Task.at_ 122 0 [true, true, true, true, true, true, true, true]
          (sv 172
            [(0, V.d (D.s l_0)), (1, V.d (D.i IntKind.i64 n_1)), (2, V.d (D.i IntKind.i64 n_2)), (8, V.d (D.b b_3)), (9, V.d (D.s l_4)),
              (10, V.d (D.i IntKind.u64 (IntKind.u64.wrap (IntKind.u64.wrap (Int.tdiv 18446744073709551615 (IntKind.u64.wrap n_1)) + 1))))])
          [] [])
        Tr.ret)))) :=
  rk_of (by kernel_rfl)
theorem u122_at991 (l_0 : List UInt8) (n_1 : Int) (n_2 : Int) (b_3 : Bool) (l_4 : List UInt8) (b_5 : Bool) :
    rk Tryd.prog polU (Task.at_ 122 0 [true, true, true, false, true, true, true, true, true]
  (sv 172 [(0, V.d (D.s l_0)), (1, V.d (D.i IntKind.i64 n_1)), (2, V.d (D.i IntKind.i64 n_2)), (8, V.d (D.b b_3)), (9, V.d (D.s l_4)), (83, V.d (D.b b_5))]) [] []) = interp (rk Tryd.prog polU) (
brB b_5 Tr.fail
  (Tr.call
    (Task.at_ 122 0 [true, true, true, true, true, true] (sv 172 [(0, V.d (D.s l_0)), (1, V.d (D.i IntKind.i64 n_1)), (2, V.d (D.i IntKind.i64 n_2)), (8, V.d (D.b b_3)), (9, V.d (D.s l_4))]) [] [])
    Tr.ret)) :=
  rk_of (by kernel_rfl)
theorem u122_at511 (l_0 : List UInt8) (n_1 : Int) (n_2 : Int) (b_3 : Bool) (l_4 : List UInt8) (n_5 : Int) :
    rk Tryd.prog polU (Task.at_ 122 0 [true, true, true, true, true, true, true, true]
  (sv 172 [(0, V.d (D.s l_0)), (1, V.d (D.i IntKind.i64 n_1)), (2, V.d (D.i IntKind.i64 n_2)), (8, V.d (D.b b_3)), (9, V.d (D.s l_4)), (10, V.d (D.i IntKind.u64 n_5))]) [] []) = interp (rk Tryd.prog polU) (
ift (decide (0 ≤ IntKind.u64.wrap n_2))
  (ift (decide (l_0.length ≤ 4294967296) && true)
    (Tr.call
      (Task.at_ 122 0 [false, true, false, true, true, true, true, true, true, true, true, true, true, true]
        (sv 172
          [(1, V.d (D.i IntKind.i64 n_1)), (8, V.d (D.b b_3)), (9, V.d (D.s l_4)), (10, V.d (D.i IntKind.u64 n_5)),
            (11, V.d (D.i IntKind.u64 (IntKind.u64.wrap (IntKind.u64.wrap (1 * 2 ^ min (IntKind.u64.wrap n_2).toNat 64) - 1)))), (12, V.d (D.b false)), (13, V.d (D.i IntKind.u64 0)),
            (99, V.d (D.l false (ofBytes l_0))), (100, V.d (D.i IntKind.i64 (↑(ofBytes l_0).length : Int))), (101, V.d (D.i IntKind.i64 0))])
        [] [])
      Tr.ret))) :=
  rk_of (by kernel_rfl)
theorem u122_at22527 (n_0 : Int) (b_1 : Bool) (l_2 : List UInt8) (n_3 : Int) (n_4 : Int) (b_5 : Bool) (n_6 : Int) (b_7 : Bool) (l_8 : List D) (n_9 : Int) (n_10 : Int) :
    rk Tryd.prog polU (Task.at_ 122 0 [false, true, false, true, true, true, true, true, true, true, true, true, true, true]
  (sv 172
    [(1, V.d (D.i IntKind.i64 n_0)), (8, V.d (D.b b_1)), (9, V.d (D.s l_2)), (10, V.d (D.i IntKind.u64 n_3)), (11, V.d (D.i IntKind.u64 n_4)), (12, V.d (D.b b_5)), (13, V.d (D.i IntKind.u64 n_6)),
      (99, V.d (D.l b_7 l_8)), (100, V.d (D.i IntKind.i64 n_9)), (101, V.d (D.i IntKind.i64 n_10))])
  [] []) = interp (rk Tryd.prog polU) (
brB (decide (n_10 < n_9))
  (ob (getI l_8 n_10) fun (d_0 : D) =>
    ift (d_0.width == 1)
      (ob l_8[n_10.toNat]? fun (d_1 : D) =>
        ob d_1.cells[0]? fun (d_2 : D) =>
          asI IntKind.u8 d_2 fun (n_3_1 : Int) =>
            brB (n_3_1 == 95)
              (Tr.call
                (Task.at_ 122 0 [true, false, false, true, true, false, false, true, true, false, false, true, false, true, true, true, true, true, true, true, true, true, true, true]
                  (sv 172
                    [(1, V.d (D.i IntKind.i64 n_0)), (8, V.d (D.b b_1)), (9, V.d (D.s l_2)), (10, V.d (D.i IntKind.u64 n_3)), (11, V.d (D.i IntKind.u64 n_4)), (12, V.d (D.b b_5)),
                      (13, V.d (D.i IntKind.u64 n_6)), (15, V.d (D.i IntKind.u8 n_3_1)), (99, V.d (D.l b_7 l_8)), (100, V.d (D.i IntKind.i64 n_9)), (101, V.d (D.i IntKind.i64 n_10)),
                      (106, V.d (D.b b_1))])
                  [] [])
                Tr.ret)
              (Tr.call
                (Task.at_ 122 0 [true, false, false, true, true, false, false, true, true, false, false, true, false, true, true, true, true, true, true, true, true, true, true, true]
                  (sv 172
                    [(1, V.d (D.i IntKind.i64 n_0)), (8, V.d (D.b b_1)), (9, V.d (D.s l_2)), (10, V.d (D.i IntKind.u64 n_3)), (11, V.d (D.i IntKind.u64 n_4)), (12, V.d (D.b b_5)),
                      (13, V.d (D.i IntKind.u64 n_6)), (15, V.d (D.i IntKind.u8 n_3_1)), (99, V.d (D.l b_7 l_8)), (100, V.d (D.i IntKind.i64 n_9)), (101, V.d (D.i IntKind.i64 n_10)),
                      (106, V.d (D.b false))])
                  [] [])
                Tr.ret)))
  (brB b_5
    (Tr.call (Task.call 134 [V.d (D.s l_2)] []) fun (o_4 : Out) =>
      ift o_4.snd.isEmpty
        (asD o_4.fst fun (d_5 : D) =>
          asB d_5 fun (b_6 : Bool) =>
            Tr.call (Task.at_ 122 0 [true, false, true, true, true, true, true, true, true, true, true, true, true, true] (sv 172 [(13, V.d (D.i IntKind.u64 n_6)), (169, V.d (D.b !b_6))]) [] [])
              Tr.ret))
    (Tr.call (Task.at_ 122 0 [true, false, true, true, true, true, true, true, true, true, true, true, true, true] (sv 172 [(13, V.d (D.i IntKind.u64 n_6)), (169, V.d (D.b false))]) [] []) Tr.ret))) :=
  rk_of (by kernel_rfl)
theorem u122_at26843135 (n_0 : Int) (b_1 : Bool) (l_2 : List UInt8) (n_3 : Int) (n_4 : Int) (b_5 : Bool) (n_6 : Int) (n_7 : Int) (b_8 : Bool) (l_9 : List D) (n_10 : Int) (n_11 : Int) (b_12 : Bool) :
    rk Tryd.prog polU (Task.at_ 122 0 [true, false, false, true, true, false, false, true, true, false, false, true, false, true, true, true, true, true, true, true, true, true, true, true]
  (sv 172
    [(1, V.d (D.i IntKind.i64 n_0)), (8, V.d (D.b b_1)), (9, V.d (D.s l_2)), (10, V.d (D.i IntKind.u64 n_3)), (11, V.d (D.i IntKind.u64 n_4)), (12, V.d (D.b b_5)), (13, V.d (D.i IntKind.u64 n_6)),
      (15, V.d (D.i IntKind.u8 n_7)), (99, V.d (D.l b_8 l_9)), (100, V.d (D.i IntKind.i64 n_10)), (101, V.d (D.i IntKind.i64 n_11)), (106, V.d (D.b b_12))])
  [] []) = interp (rk Tryd.prog polU) (
brB b_12
  (Tr.call
    (Task.at_ 122 0 [false, true, false, true, true, true, true, true, true, true, true, true, true, true]
      (sv 172
        [(1, V.d (D.i IntKind.i64 n_0)), (8, V.d (D.b b_1)), (9, V.d (D.s l_2)), (10, V.d (D.i IntKind.u64 n_3)), (11, V.d (D.i IntKind.u64 n_4)), (12, V.d (D.b true)),
          (13, V.d (D.i IntKind.u64 n_6)), (99, V.d (D.l b_8 l_9)), (100, V.d (D.i IntKind.i64 n_10)), (101, V.d (D.i IntKind.i64 (IntKind.i64.wrap (n_11 + 1))))])
      [] [])
    Tr.ret)
  (brB (decide (48 ≤ n_7))
    (Tr.call
      (Task.at_ 122 0 [true, true, true, false, false, true, true, false, false, true, true, false, false, true, false, true, true, true, true, true, true, true, true, true, true, true]
        (sv 172
          [(1, V.d (D.i IntKind.i64 n_0)), (8, V.d (D.b b_1)), (9, V.d (D.s l_2)), (10, V.d (D.i IntKind.u64 n_3)), (11, V.d (D.i IntKind.u64 n_4)), (12, V.d (D.b b_5)),
            (13, V.d (D.i IntKind.u64 n_6)), (15, V.d (D.i IntKind.u8 n_7)), (99, V.d (D.l b_8 l_9)), (100, V.d (D.i IntKind.i64 n_10)), (101, V.d (D.i IntKind.i64 n_11)),
            (112, V.d (D.b (decide (n_7 ≤ 57))))])
        [] [])
      Tr.ret)
    (Tr.call
      (Task.at_ 122 0 [true, true, true, false, false, true, true, false, false, true, true, false, false, true, false, true, true, true, true, true, true, true, true, true, true, true]
        (sv 172
          [(1, V.d (D.i IntKind.i64 n_0)), (8, V.d (D.b b_1)), (9, V.d (D.s l_2)), (10, V.d (D.i IntKind.u64 n_3)), (11, V.d (D.i IntKind.u64 n_4)), (12, V.d (D.b b_5)),
            (13, V.d (D.i IntKind.u64 n_6)), (15, V.d (D.i IntKind.u8 n_7)), (99, V.d (D.l b_8 l_9)), (100, V.d (D.i IntKind.i64 n_10)), (101, V.d (D.i IntKind.i64 n_11)), (112, V.d (D.b false))])
        [] [])
      Tr.ret))) :=
  rk_of (by kernel_rfl)
theorem u122_at28671 (n_0 : Int) (b_1 : Bool) :
    rk Tryd.prog polU (Task.at_ 122 0 [true, false, true, true, true, true, true, true, true, true, true, true, true, true] (sv 172 [(13, V.d (D.i IntKind.u64 n_0)), (169, V.d (D.b b_1))]) [] []) = interp (rk Tryd.prog polU) (
brB b_1 Tr.fail (Tr.ret (V.t [V.d (D.i IntKind.u64 n_0), V.nifc], []))) :=
  rk_of (by kernel_rfl)
theorem u122_at127506431 (n_0 : Int) (b_1 : Bool) (l_2 : List UInt8) (n_3 : Int) (n_4 : Int) (b_5 : Bool) (n_6 : Int) (n_7 : Int) (b_8 : Bool) (l_9 : List D) (n_10 : Int) (n_11 : Int) (b_12 : Bool) :
    rk Tryd.prog polU (Task.at_ 122 0 [true, true, true, false, false, true, true, false, false, true, true, false, false, true, false, true, true, true, true, true, true, true, true, true, true, true]
  (sv 172
    [(1, V.d (D.i IntKind.i64 n_0)), (8, V.d (D.b b_1)), (9, V.d (D.s l_2)), (10, V.d (D.i IntKind.u64 n_3)), (11, V.d (D.i IntKind.u64 n_4)), (12, V.d (D.b b_5)), (13, V.d (D.i IntKind.u64 n_6)),
      (15, V.d (D.i IntKind.u8 n_7)), (99, V.d (D.l b_8 l_9)), (100, V.d (D.i IntKind.i64 n_10)), (101, V.d (D.i IntKind.i64 n_11)), (112, V.d (D.b b_12))])
  [] []) = interp (rk Tryd.prog polU) (
brB b_12
  (brB (decide (IntKind.u8.wrap (n_7 - 48) ≥ IntKind.u8.wrap n_0)) Tr.fail
    (brB (decide (n_6 ≥ n_3)) Tr.fail
      (brB (decide (IntKind.u64.wrap (IntKind.u64.wrap (n_6 * IntKind.u64.wrap n_0) + IntKind.u64.wrap (IntKind.u8.wrap (n_7 - 48))) < IntKind.u64.wrap (n_6 * IntKind.u64.wrap n_0)))
        (Tr.call
          (Task.at_ 122 0 [true, false, true, true, true, true, true, true, true, false, false, true, true, false, false, true, false, true, true, true, true, true, true, true, true, true, true, true]
            (sv 172
              [(1, V.d (D.i IntKind.i64 n_0)), (8, V.d (D.b b_1)), (9, V.d (D.s l_2)), (10, V.d (D.i IntKind.u64 n_3)), (11, V.d (D.i IntKind.u64 n_4)), (12, V.d (D.b b_5)),
                (17, V.d (D.i IntKind.u64 (IntKind.u64.wrap (IntKind.u64.wrap (n_6 * IntKind.u64.wrap n_0) + IntKind.u64.wrap (IntKind.u8.wrap (n_7 - 48)))))), (99, V.d (D.l b_8 l_9)),
                (100, V.d (D.i IntKind.i64 n_10)), (101, V.d (D.i IntKind.i64 n_11)), (159, V.d (D.b true))])
            [] [])
          Tr.ret)
        (Tr.call
          (Task.at_ 122 0 [true, false, true, true, true, true, true, true, true, false, false, true, true, false, false, true, false, true, true, true, true, true, true, true, true, true, true, true]
            (sv 172
              [(1, V.d (D.i IntKind.i64 n_0)), (8, V.d (D.b b_1)), (9, V.d (D.s l_2)), (10, V.d (D.i IntKind.u64 n_3)), (11, V.d (D.i IntKind.u64 n_4)), (12, V.d (D.b b_5)),
                (17, V.d (D.i IntKind.u64 (IntKind.u64.wrap (IntKind.u64.wrap (n_6 * IntKind.u64.wrap n_0) + IntKind.u64.wrap (IntKind.u8.wrap (n_7 - 48)))))), (99, V.d (D.l b_8 l_9)),
                (100, V.d (D.i IntKind.i64 n_10)), (101, V.d (D.i IntKind.i64 n_11)),
                (159, V.d (D.b (decide (IntKind.u64.wrap (IntKind.u64.wrap (n_6 * IntKind.u64.wrap n_0) + IntKind.u64.wrap (IntKind.u8.wrap (n_7 - 48))) > n_4))))])
            [] [])
          Tr.ret))))
  (Tr.call (Task.call 133 [V.d (D.i IntKind.u8 n_7)] []) fun (o_0 : Out) =>
    ift o_0.snd.isEmpty
      (asD o_0.fst fun (d_1 : D) =>
        asI IntKind.u8 d_1 fun (n_2 : Int) =>
          brB (decide (97 ≤ n_2))
            (Tr.call (Task.call 133 [V.d (D.i IntKind.u8 n_7)] []) fun (o_3 : Out) =>
              ift o_3.snd.isEmpty
                (asD o_3.fst fun (d_4 : D) =>
                  asI IntKind.u8 d_4 fun (n_5 : Int) =>
                    Tr.call
                      (Task.at_ 122 0
                        [true, true, true, true, true, false, false, true, true, false, false, true, true, false, false, true, false, true, true, true, true, true, true, true, true, true, true, true]
                        (sv 172
                          [(1, V.d (D.i IntKind.i64 n_0)), (8, V.d (D.b b_1)), (9, V.d (D.s l_2)), (10, V.d (D.i IntKind.u64 n_3)), (11, V.d (D.i IntKind.u64 n_4)), (12, V.d (D.b b_5)),
                            (13, V.d (D.i IntKind.u64 n_6)), (15, V.d (D.i IntKind.u8 n_7)), (99, V.d (D.l b_8 l_9)), (100, V.d (D.i IntKind.i64 n_10)), (101, V.d (D.i IntKind.i64 n_11)),
                            (121, V.d (D.b (decide (n_5 ≤ 122))))])
                        [] [])
                      Tr.ret))
            (Tr.call
              (Task.at_ 122 0
                [true, true, true, true, true, false, false, true, true, false, false, true, true, false, false, true, false, true, true, true, true, true, true, true, true, true, true, true]
                (sv 172
                  [(1, V.d (D.i IntKind.i64 n_0)), (8, V.d (D.b b_1)), (9, V.d (D.s l_2)), (10, V.d (D.i IntKind.u64 n_3)), (11, V.d (D.i IntKind.u64 n_4)), (12, V.d (D.b b_5)),
                    (13, V.d (D.i IntKind.u64 n_6)), (15, V.d (D.i IntKind.u8 n_7)), (99, V.d (D.l b_8 l_9)), (100, V.d (D.i IntKind.i64 n_10)), (101, V.d (D.i IntKind.i64 n_11)),
                    (121, V.d (D.b false))])
                [] [])
              Tr.ret)))) :=
  rk_of (by kernel_rfl)
theorem u122_at469342207 (n_0 : Int) (b_1 : Bool) (l_2 : List UInt8) (n_3 : Int) (n_4 : Int) (b_5 : Bool) (n_6 : Int) (b_7 : Bool) (l_8 : List D) (n_9 : Int) (n_10 : Int) (b_11 : Bool) :
    rk Tryd.prog polU (Task.at_ 122 0 [true, false, true, true, true, true, true, true, true, false, false, true, true, false, false, true, false, true, true, true, true, true, true, true, true, true, true, true]
  (sv 172
    [(1, V.d (D.i IntKind.i64 n_0)), (8, V.d (D.b b_1)), (9, V.d (D.s l_2)), (10, V.d (D.i IntKind.u64 n_3)), (11, V.d (D.i IntKind.u64 n_4)), (12, V.d (D.b b_5)), (17, V.d (D.i IntKind.u64 n_6)),
      (99, V.d (D.l b_7 l_8)), (100, V.d (D.i IntKind.i64 n_9)), (101, V.d (D.i IntKind.i64 n_10)), (159, V.d (D.b b_11))])
  [] []) = interp (rk Tryd.prog polU) (
brB b_11 Tr.fail
  (Tr.call
    (Task.at_ 122 0 [false, true, false, true, true, true, true, true, true, true, true, true, true, true]
      (sv 172
        [(1, V.d (D.i IntKind.i64 n_0)), (8, V.d (D.b b_1)), (9, V.d (D.s l_2)), (10, V.d (D.i IntKind.u64 n_3)), (11, V.d (D.i IntKind.u64 n_4)), (12, V.d (D.b b_5)), (13, V.d (D.i IntKind.u64 n_6)),
          (99, V.d (D.l b_7 l_8)), (100, V.d (D.i IntKind.i64 n_9)), (101, V.d (D.i IntKind.i64 (IntKind.i64.wrap (n_10 + 1))))])
      [] [])
    Tr.ret)) :=
  rk_of (by kernel_rfl)
theorem u122_at530159615 (n_0 : Int) (b_1 : Bool) (l_2 : List UInt8) (n_3 : Int) (n_4 : Int) (b_5 : Bool) (n_6 : Int) (n_7 : Int) (b_8 : Bool) (l_9 : List D) (n_10 : Int) (n_11 : Int) (b_12 : Bool) :
    rk Tryd.prog polU (Task.at_ 122 0 [true, true, true, true, true, false, false, true, true, false, false, true, true, false, false, true, false, true, true, true, true, true, true, true, true, true, true, true]
  (sv 172
    [(1, V.d (D.i IntKind.i64 n_0)), (8, V.d (D.b b_1)), (9, V.d (D.s l_2)), (10, V.d (D.i IntKind.u64 n_3)), (11, V.d (D.i IntKind.u64 n_4)), (12, V.d (D.b b_5)), (13, V.d (D.i IntKind.u64 n_6)),
      (15, V.d (D.i IntKind.u8 n_7)), (99, V.d (D.l b_8 l_9)), (100, V.d (D.i IntKind.i64 n_10)), (101, V.d (D.i IntKind.i64 n_11)), (121, V.d (D.b b_12))])
  [] []) = interp (rk Tryd.prog polU) (
brB b_12
  (Tr.call (Task.call 133 [V.d (D.i IntKind.u8 n_7)] []) fun (o_0 : Out) =>
    ift o_0.snd.isEmpty
      (asD o_0.fst fun (d_1 : D) =>
        asI IntKind.u8 d_1 fun (n_2 : Int) =>
          brB (decide (IntKind.u8.wrap (IntKind.u8.wrap (n_2 - 97) + 10) ≥ IntKind.u8.wrap n_0)) Tr.fail
            (brB (decide (n_6 ≥ n_3)) Tr.fail
              (brB
                (decide
                  (IntKind.u64.wrap (IntKind.u64.wrap (n_6 * IntKind.u64.wrap n_0) + IntKind.u64.wrap (IntKind.u8.wrap (IntKind.u8.wrap (n_2 - 97) + 10))) <
                    IntKind.u64.wrap (n_6 * IntKind.u64.wrap n_0)))
                (Tr.call
                  (Task.at_ 122 0
                    [true, false, true, true, true, true, true, true, true, false, false, true, true, false, false, true, false, true, true, true, true, true, true, true, true, true, true, true]
                    (sv 172
                      [(1, V.d (D.i IntKind.i64 n_0)), (8, V.d (D.b b_1)), (9, V.d (D.s l_2)), (10, V.d (D.i IntKind.u64 n_3)), (11, V.d (D.i IntKind.u64 n_4)), (12, V.d (D.b b_5)),
                        (17, V.d (D.i IntKind.u64 (IntKind.u64.wrap (IntKind.u64.wrap (n_6 * IntKind.u64.wrap n_0) + IntKind.u64.wrap (IntKind.u8.wrap (IntKind.u8.wrap (n_2 - 97) + 10)))))),
                        (99, V.d (D.l b_8 l_9)), (100, V.d (D.i IntKind.i64 n_10)), (101, V.d (D.i IntKind.i64 n_11)), (159, V.d (D.b true))])
                    [] [])
                  Tr.ret)
                (Tr.call
                  (Task.at_ 122 0
                    [true, false, true, true, true, true, true, true, true, false, false, true, true, false, false, true, false, true, true, true, true, true, true, true, true, true, true, true]
                    (sv 172
                      [(1, V.d (D.i IntKind.i64 n_0)), (8, V.d (D.b b_1)), (9, V.d (D.s l_2)), (10, V.d (D.i IntKind.u64 n_3)), (11, V.d (D.i IntKind.u64 n_4)), (12, V.d (D.b b_5)),
                        (17, V.d (D.i IntKind.u64 (IntKind.u64.wrap (IntKind.u64.wrap (n_6 * IntKind.u64.wrap n_0) + IntKind.u64.wrap (IntKind.u8.wrap (IntKind.u8.wrap (n_2 - 97) + 10)))))),
                        (99, V.d (D.l b_8 l_9)), (100, V.d (D.i IntKind.i64 n_10)), (101, V.d (D.i IntKind.i64 n_11)),
                        (159, V.d (D.b (decide (IntKind.u64.wrap (IntKind.u64.wrap (n_6 * IntKind.u64.wrap n_0) + IntKind.u64.wrap (IntKind.u8.wrap (IntKind.u8.wrap (n_2 - 97) + 10))) > n_4))))])
                    [] [])
                  Tr.ret)))))
  Tr.fail) :=
  rk_of (by kernel_rfl)
end Go.Dn.Dec
namespace Go.Dn.Dec
open Go.Proofs
theorem lower_n (n : Nat) (h : (65 ≤ n ∧ n ≤ 70) ∨ (97 ≤ n ∧ n ≤ 102)) : IntKind.u8.wrap ((BitVec.ofInt IntKind.u8.bits (n : Int) ||| BitVec.ofInt IntKind.u8.bits 32).toNat : Int) = if 97 ≤ n then (n : Int) else (n : Int) + 32 := by
  have : n = 65 ∨ n = 66 ∨ n = 67 ∨ n = 68 ∨ n = 69 ∨ n = 70 ∨ n = 97 ∨ n = 98 ∨ n = 99 ∨ n = 100 ∨ n = 101 ∨ n = 102 := by omega
  rcases this with rfl | rfl | rfl | rfl | rfl | rfl | rfl | rfl | rfl | rfl | rfl | rfl <;> rfl
theorem isHex_iff (c : UInt8) : isHex c = true ↔ (48 ≤ c.toNat ∧ c.toNat ≤ 57) ∨ (97 ≤ c.toNat ∧ c.toNat ≤ 102) ∨ (65 ≤ c.toNat ∧ c.toNat ≤ 70) := by
  unfold isHex
  simp only [Bool.or_eq_true, Bool.and_eq_true, decide_eq_true_eq]
  omega
theorem lower_s (c : UInt8) (h : isHex c = true) (h2 : ¬ c.toNat ≤ 57) : rk Tryd.prog polU (Task.call 133 [V.d (D.i .u8 (c.toNat : Int))] []) = some (.d (.i .u8 ((hexVal c : Int) + 87)), []) := by
  have h3 := (isHex_iff c).1 h
  rw [u133, interp_ret, lower_n c.toNat (by omega)]
  unfold hexVal
  rw [if_neg h2]
  by_cases h4 : 97 ≤ c.toNat
  · rw [if_pos h4, if_pos h4, show ((c.toNat - 87 : Nat) : Int) + 87 = (c.toNat : Int) by omega]
  · rw [if_neg h4, if_neg h4, show ((c.toNat - 55 : Nat) : Int) + 87 = (c.toNat : Int) + 32 by omega]
theorem hexVal_lt (c : UInt8) (h : isHex c = true) : hexVal c < 16 := by
  have := (isHex_iff c).1 h
  unfold hexVal
  split
  · omega
  · split <;> omega
/-- The loop's variables. -/
def puS (s : List UInt8) (l2 : List UInt8) (v : Int) (i : Nat) : List (Nat × V) :=
  [(1, V.d (D.i IntKind.i64 16)), (8, V.d (D.b false)), (9, V.d (D.s l2)), (10, V.d (D.i IntKind.u64 1152921504606846976)), (11, V.d (D.i IntKind.u64 18446744073709551615)), (12, V.d (D.b false)), (13, V.d (D.i IntKind.u64 v)),
      (99, V.d (D.l false (ofBytes s))), (100, V.d (D.i IntKind.i64 (s.length : Int))), (101, V.d (D.i IntKind.i64 (i : Int)))]
theorem pu_loop (l2 : List UInt8) : ∀ (r p : List UInt8) (v : Nat), (∀ c ∈ r, isHex c = true) → (p ++ r).length ≤ 16 → v < 16 ^ p.length →
    rk Tryd.prog polU (Task.at_ 122 0 [false, true, false, true, true, true, true, true, true, true, true, true, true, true] (sv 172 (puS (p ++ r) l2 (v : Int) p.length)) [] []) =
      some (.t [.d (.i .u64 ((r.foldl (fun a c => a * 16 + hexVal c) v : Nat) : Int)), .nifc], [])
  | [], p, v, hd, hl, hv => by
    unfold puS
    rw [List.append_nil, u122_at22527, st_f (by omega), st_F, interp_call_ret, u122_at28671, st_F, interp_ret]
    rfl
  | c :: r, p, v, hd, hl, hv => by
    have hc := hd c (by simp)
    have hc3 := (isHex_iff c).1 hc
    have hx := hexVal_lt c hc
    have hlen : (p ++ c :: r).length = p.length + (r.length + 1) := by simp
    have hi : p.length < (p ++ c :: r).length := by omega
    have hel : (ofBytes (p ++ c :: r))[p.length]? = some (.i .u8 (c.toNat : Int)) := by unfold ofBytes; simp
    have g1 : getI (ofBytes (p ++ c :: r)) (p.length : Int) = some (.i .u8 (c.toNat : Int)) := by rw [getI_nat]; exact hel
    have g2 : (ofBytes (p ++ c :: r))[(p.length : Int).toNat]? = some (.i .u8 (c.toNat : Int)) := by rw [Int.toNat_natCast]; exact hel
    have hpl : (p ++ [c]).length = p.length + 1 := by simp
    have hv2 : v * 16 + hexVal c < 16 ^ (p ++ [c]).length := by rw [hpl, Nat.pow_succ]; omega
    have hp15 : p.length ≤ 15 := by omega
    have hv1 : v < 1152921504606846976 := Nat.lt_of_lt_of_le hv (Nat.le_trans (Nat.pow_le_pow_right (by decide) hp15) (by decide))
    have ih := pu_loop l2 r (p ++ [c]) (v * 16 + hexVal c) (fun c h => hd c (by simp [h])) (by simpa using hl) hv2
    rw [List.append_assoc, List.singleton_append, hpl] at ih
    have w16 : IntKind.u64.wrap 16 = 16 := rfl
    have w16b : IntKind.u8.wrap 16 = 16 := rfl
    have w1 : IntKind.u64.wrap ((v : Int) * 16) = ((v * 16 : Nat) : Int) := by rw [u64_wrap]; omega
    have w2 : IntKind.u64.wrap ((hexVal c : Nat) : Int) = ((hexVal c : Nat) : Int) := by rw [u64_wrap]; omega
    have w3 : IntKind.u64.wrap (((v * 16 : Nat) : Int) + ((hexVal c : Nat) : Int)) = ((v * 16 + hexVal c : Nat) : Int) := by rw [u64_wrap]; omega
    have w4 : IntKind.i64.wrap ((p.length : Int) + 1) = ((p.length + 1 : Nat) : Int) := by rw [wrap_i64] <;> omega
    unfold puS at ih ⊢
    rw [u122_at22527, st_t (by omega), st_ob g1]
    show interp _ (ift true _) = _
    rw [st_ift, st_ob g2, st_ob (a := D.i .u8 (c.toNat : Int)) (by rfl), st_asI, st_ne (by omega), interp_call_ret, u122_at26843135, st_F, st_t (by omega), interp_call_ret]
    by_cases h57 : c.toNat ≤ 57
    · have e : IntKind.u8.wrap ((c.toNat : Int) - 48) = ((hexVal c : Nat) : Int) := by unfold hexVal; rw [if_pos h57, wrap_u8] <;> omega
      rw [decide_eq_true (show (c.toNat : Int) ≤ 57 by omega), u122_at127506431, st_T, e, w16b, st_f (by omega), st_f (by omega), w16, w1, w2, w3, st_f (by omega), interp_call_ret, decide_eq_false (by omega), u122_at469342207, st_F, w4, interp_call_ret, ih]
      rfl
    · have hlw := lower_s c hc h57
      have e1 : IntKind.u8.wrap ((hexVal c : Int) + 87 - 97) = IntKind.u8.wrap ((hexVal c : Int) - 10) := by congr 1; omega
      have h10 : 10 ≤ hexVal c := by unfold hexVal; rw [if_neg h57]; split <;> omega
      have e2 : IntKind.u8.wrap ((hexVal c : Int) - 10) = (hexVal c : Int) - 10 := by rw [wrap_u8] <;> omega
      have e3 : IntKind.u8.wrap ((hexVal c : Int) - 10 + 10) = ((hexVal c : Nat) : Int) := by rw [wrap_u8] <;> omega
      rw [decide_eq_false (show ¬ (c.toNat : Int) ≤ 57 by omega), u122_at127506431, st_F, st_I hlw, st_t (by omega), st_I hlw, interp_call_ret, decide_eq_true (by omega), u122_at530159615, st_T, st_I hlw, e1, e2, e3, w16b,
        st_f (by omega), st_f (by omega), w16, w1, w2, w3, st_f (by omega), interp_call_ret, decide_eq_false (by omega), u122_at469342207, st_F, w4, interp_call_ret, ih]
      rfl
theorem pu_s (s : List UInt8) (hne : s ≠ []) (hl : s.length ≤ 16) (hd : ∀ c ∈ s, isHex c = true) :
    rk Tryd.prog polU (Task.call 122 [V.d (D.s s), V.d (D.i .i64 16), V.d (D.i .i64 64)] []) = some (.t [.d (.i .u64 ((hexV s : Nat) : Int)), .nifc], []) := by
  have hL := pu_loop s s [] 0 hd (by simpa using hl) (by decide)
  rw [List.nil_append] at hL
  unfold hexV
  rw [u122, st_bf (by cases s with | nil => exact absurd rfl hne | cons c s => rfl), interp_call_ret, u122_at207, st_T, st_ne (by decide), st_f (by decide), interp_call_ret, u122_at991, decide_eq_false (by decide), st_F, interp_call_ret,
    u122_at127, st_ne (by decide), st_eq rfl, interp_call_ret, u122_at511, st_if (by decide), Bool.and_true, st_if (by omega), interp_call_ret]
  rw [show (ofBytes s).length = s.length from List.length_map ..]
  exact hL
end Go.Dn.Dec
namespace Go.Dn.Dec
open Go.Proofs
theorem a51 (n : Nat) (cs : List V) :
    rk Tryd.prog polA (Task.call 64 [V.m 0 0 n] [Ob.cells cs []]) = interp (rk Tryd.prog polA) (
Tr.call (Task.at_ 64 1 [false, false, true, true] (sv 22 [(0, V.m 0 0 n), (3, V.d (D.i IntKind.i64 (↑n : Int)))]) [] [Ob.cells cs []]) Tr.ret) :=
  rk_of (by kernel_rfl)
theorem a51p (n : Nat) (cs : List V) (ds : List V) :
    rk Tryd.prog polA (Task.call 64 [V.m 1 0 n] [Ob.cells ds [], Ob.cells cs []]) = interp (rk Tryd.prog polA) (
Tr.call (Task.at_ 64 2 [false, false, true, true] (sv 22 [(0, V.m 1 0 n), (3, V.d (D.i IntKind.i64 (↑n : Int)))]) [] [Ob.cells ds [], Ob.cells cs []]) Tr.ret) :=
  rk_of (by kernel_rfl)
theorem a62 (n : Nat) (m : Nat) (cs : List V) (ds : List V) :
    rk Tryd.prog polA (Task.call 66 [V.m 0 0 n, V.m 1 0 m] [Ob.cells ds [], Ob.cells cs []]) = interp (rk Tryd.prog polA) (
Tr.call (Task.call 64 [V.m 0 0 n] [Ob.cells cs []]) fun (o_0 : Out) =>
  unCons o_0.snd fun (x_1 : Ob) (l_2 : List Ob) =>
    unCells x_1 fun (l_3 : List V) (l_4 : Fl) =>
      ift (l_3.length == cs.length)
        (ift (l_4 == [])
          (unNil l_2
            (asD o_0.fst fun (d_5 : D) =>
              asL d_5 fun (b_6 : Bool) (l_7 : List D) =>
                Tr.call (Task.call 64 [V.m 1 0 m] [Ob.cells ds [], Ob.cells l_3 []]) fun (o_8 : Out) =>
                  unCons o_8.snd fun (x_9 : Ob) (l_10 : List Ob) =>
                    unCells x_9 fun (l_11 : List V) (l_12 : Fl) =>
                      ift (l_11.length == ds.length)
                        (ift (l_12 == [])
                          (unCons l_10 fun (x_13 : Ob) (l_14 : List Ob) =>
                            unCells x_13 fun (l_15 : List V) (l_16 : Fl) =>
                              ift (l_15.length == l_3.length)
                                (ift (l_16 == [])
                                  (unNil l_14
                                    (asD o_8.fst fun (d_17 : D) =>
                                      asL d_17 fun (b_18 : Bool) (l_19 : List D) =>
                                        brB (decide ((↑l_7.length : Int) < (↑l_19.length : Int))) (Tr.ret (V.d (D.i IntKind.i64 (-1)), [Ob.cells l_11 [], Ob.cells l_15 []]))
                                          (brB (decide ((↑l_7.length : Int) > (↑l_19.length : Int))) (Tr.ret (V.d (D.i IntKind.i64 1), [Ob.cells l_11 [], Ob.cells l_15 []]))
                                            (Tr.call
                                              (Task.at_ 66 2 [false, true, false, true, true, true]
                                                (sv 49 [(0, V.d (D.l b_6 l_7)), (1, V.d (D.l b_18 l_19)), (5, V.d (D.i IntKind.i64 (IntKind.i64.wrap ((↑l_7.length : Int) - 1))))]) []
                                                [Ob.cells l_11 [], Ob.cells l_15 []])
                                              Tr.ret))))))))))) :=
  rk_of (by kernel_rfl)
theorem a51_at19 (m_0 : Nat) (n_1 : Int) (l_2 : List V) :
    rk Tryd.prog polA (Task.at_ 64 1 [false, false, true, true] (sv 22 [(0, V.m 0 0 m_0), (3, V.d (D.i IntKind.i64 n_1))]) [] [Ob.cells l_2 []]) = interp (rk Tryd.prog polA) (
brB (decide (n_1 > 0))
  (ift (decide (0 ≤ IntKind.i64.wrap (n_1 - 1) ∧ IntKind.i64.wrap (n_1 - 1) < (↑m_0 : Int)))
    (ob l_2[0 + (IntKind.i64.wrap (n_1 - 1)).toNat]? fun (v_0 : V) =>
      asD v_0 fun (d_1 : D) =>
        asI IntKind.u32 d_1 fun (n_2 : Int) =>
          Tr.call (Task.at_ 64 1 [true, false, false, false, false, true, true] (sv 22 [(0, V.m 0 0 m_0), (3, V.d (D.i IntKind.i64 n_1)), (15, V.d (D.b (n_2 == 0)))]) [] [Ob.cells l_2 []]) Tr.ret))
  (Tr.call (Task.at_ 64 1 [true, false, false, false, false, true, true] (sv 22 [(0, V.m 0 0 m_0), (3, V.d (D.i IntKind.i64 n_1)), (15, V.d (D.b false))]) [] [Ob.cells l_2 []]) Tr.ret)) :=
  rk_of (by kernel_rfl)
theorem a51_at19_2 (m_0 : Nat) (n_1 : Int) (l_2 : List V) (l_3 : List V) :
    rk Tryd.prog polA (Task.at_ 64 2 [false, false, true, true] (sv 22 [(0, V.m 1 0 m_0), (3, V.d (D.i IntKind.i64 n_1))]) [] [Ob.cells l_2 [], Ob.cells l_3 []]) = interp (rk Tryd.prog polA) (
brB (decide (n_1 > 0))
  (ift (decide (0 ≤ IntKind.i64.wrap (n_1 - 1) ∧ IntKind.i64.wrap (n_1 - 1) < (↑m_0 : Int)))
    (ob l_2[0 + (IntKind.i64.wrap (n_1 - 1)).toNat]? fun (v_0 : V) =>
      asD v_0 fun (d_1 : D) =>
        asI IntKind.u32 d_1 fun (n_2 : Int) =>
          Tr.call
            (Task.at_ 64 2 [true, false, false, false, false, true, true] (sv 22 [(0, V.m 1 0 m_0), (3, V.d (D.i IntKind.i64 n_1)), (15, V.d (D.b (n_2 == 0)))]) [] [Ob.cells l_2 [], Ob.cells l_3 []])
            Tr.ret))
  (Tr.call (Task.at_ 64 2 [true, false, false, false, false, true, true] (sv 22 [(0, V.m 1 0 m_0), (3, V.d (D.i IntKind.i64 n_1)), (15, V.d (D.b false))]) [] [Ob.cells l_2 [], Ob.cells l_3 []])
    Tr.ret)) :=
  rk_of (by kernel_rfl)
theorem a62_at87 (b_0 : Bool) (l_1 : List D) (b_2 : Bool) (l_3 : List D) (n_4 : Int) (l_5 : List V) (l_6 : List V) :
    rk Tryd.prog polA (Task.at_ 66 2 [false, true, false, true, true, true] (sv 49 [(0, V.d (D.l b_0 l_1)), (1, V.d (D.l b_2 l_3)), (5, V.d (D.i IntKind.i64 n_4))]) [] [Ob.cells l_5 [], Ob.cells l_6 []]) = interp (rk Tryd.prog polA) (
brB (decide (n_4 ≥ 0))
  (ob (getI l_1 n_4) fun (d_0 : D) =>
    ift (d_0.width == 1)
      (ob l_1[n_4.toNat]? fun (d_1 : D) =>
        ob d_1.cells[0]? fun (d_2 : D) =>
          asI IntKind.u32 d_2 fun (n_3 : Int) =>
            ob (getI l_3 n_4) fun (d_4 : D) =>
              ift (d_4.width == 1)
                (ob l_3[n_4.toNat]? fun (d_5 : D) =>
                  ob d_5.cells[0]? fun (d_6 : D) =>
                    asI IntKind.u32 d_6 fun (n_7 : Int) =>
                      brB (decide (n_3 < n_7)) (Tr.ret (V.d (D.i IntKind.i64 (-1)), [Ob.cells l_5 [], Ob.cells l_6 []]))
                        (ob (getI l_1 n_4) fun (d_8 : D) =>
                          ift (d_8.width == 1)
                            (ob l_1[n_4.toNat]? fun (d_9 : D) =>
                              ob d_9.cells[0]? fun (d_10 : D) =>
                                asI IntKind.u32 d_10 fun (n_11 : Int) =>
                                  ob (getI l_3 n_4) fun (d_12 : D) =>
                                    ift (d_12.width == 1)
                                      (ob l_3[n_4.toNat]? fun (d_13 : D) =>
                                        ob d_13.cells[0]? fun (d_14 : D) =>
                                          asI IntKind.u32 d_14 fun (n_15 : Int) =>
                                            brB (decide (n_11 > n_15)) (Tr.ret (V.d (D.i IntKind.i64 1), [Ob.cells l_5 [], Ob.cells l_6 []]))
                                              (Tr.call
                                                (Task.at_ 66 2 [false, true, false, true, true, true]
                                                  (sv 49 [(0, V.d (D.l b_0 l_1)), (1, V.d (D.l b_2 l_3)), (5, V.d (D.i IntKind.i64 (IntKind.i64.wrap (n_4 - 1))))]) []
                                                  [Ob.cells l_5 [], Ob.cells l_6 []])
                                                Tr.ret)))))))
  (Tr.ret (V.d (D.i IntKind.i64 0), [Ob.cells l_5 [], Ob.cells l_6 []]))) :=
  rk_of (by kernel_rfl)
theorem a51_at195 (m_0 : Nat) (n_1 : Int) (b_2 : Bool) (l_3 : List V) :
    rk Tryd.prog polA (Task.at_ 64 1 [true, false, false, false, false, true, true] (sv 22 [(0, V.m 0 0 m_0), (3, V.d (D.i IntKind.i64 n_1)), (15, V.d (D.b b_2))]) [] [Ob.cells l_3 []]) = interp (rk Tryd.prog polA) (
brB b_2 (Tr.call (Task.at_ 64 1 [false, false, true, true] (sv 22 [(0, V.m 0 0 m_0), (3, V.d (D.i IntKind.i64 (IntKind.i64.wrap (n_1 - 1))))]) [] [Ob.cells l_3 []]) Tr.ret)
  (ift (decide (0 ≤ n_1 ∧ n_1 ≤ (↑m_0 : Int)))
    (ob (o_tail [Ob.cells l_3 []] 1 (V.m 0 0 (n_1.toNat - 0))) fun (l_0 : List D) =>
      ift (headOk 1 l_0) (ift (decide (0 + l_0.length ≤ 4294967296)) (Tr.ret (V.d (D.l l_0.isEmpty ([] ++ l_0)), [Ob.cells l_3 []])))))) :=
  rk_of (by kernel_rfl)
theorem a51_at195_1 (m_0 : Nat) (n_1 : Int) (b_2 : Bool) (l_3 : List V) (l_4 : List V) :
    rk Tryd.prog polA (Task.at_ 64 2 [true, false, false, false, false, true, true] (sv 22 [(0, V.m 1 0 m_0), (3, V.d (D.i IntKind.i64 n_1)), (15, V.d (D.b b_2))]) [] [Ob.cells l_3 [], Ob.cells l_4 []]) = interp (rk Tryd.prog polA) (
brB b_2 (Tr.call (Task.at_ 64 2 [false, false, true, true] (sv 22 [(0, V.m 1 0 m_0), (3, V.d (D.i IntKind.i64 (IntKind.i64.wrap (n_1 - 1))))]) [] [Ob.cells l_3 [], Ob.cells l_4 []]) Tr.ret)
  (ift (decide (0 ≤ n_1 ∧ n_1 ≤ (↑m_0 : Int)))
    (ob (o_tail [Ob.cells l_3 [], Ob.cells l_4 []] 1 (V.m 1 0 (n_1.toNat - 0))) fun (l_0 : List D) =>
      ift (headOk 1 l_0) (ift (decide (0 + l_0.length ≤ 4294967296)) (Tr.ret (V.d (D.l l_0.isEmpty ([] ++ l_0)), [Ob.cells l_3 [], Ob.cells l_4 []])))))) :=
  rk_of (by kernel_rfl)
theorem c51 (b : Bool) (xs : List D) :
    rk Tryd.prog polC (Task.call 64 [V.d (D.l b xs)] []) = interp (rk Tryd.prog polC) (
Tr.call (Task.at_ 64 0 [false, false, true, true] (sv 22 [(0, V.d (D.l b xs)), (3, V.d (D.i IntKind.i64 (↑xs.length : Int)))]) [] []) Tr.ret) :=
  rk_of (by kernel_rfl)
theorem c51_at19 (b_0 : Bool) (l_1 : List D) (n_2 : Int) :
    rk Tryd.prog polC (Task.at_ 64 0 [false, false, true, true] (sv 22 [(0, V.d (D.l b_0 l_1)), (3, V.d (D.i IntKind.i64 n_2))]) [] []) = interp (rk Tryd.prog polC) (
brB (decide (n_2 > 0))
  (ob (getI l_1 (IntKind.i64.wrap (n_2 - 1))) fun (d_0 : D) =>
    ift (d_0.width == 1)
      (ob l_1[(IntKind.i64.wrap (n_2 - 1)).toNat]? fun (d_1 : D) =>
        ob d_1.cells[0]? fun (d_2 : D) =>
          asI IntKind.u32 d_2 fun (n_3 : Int) =>
            Tr.call (Task.at_ 64 0 [true, false, false, false, false, true, true] (sv 22 [(0, V.d (D.l b_0 l_1)), (3, V.d (D.i IntKind.i64 n_2)), (15, V.d (D.b (n_3 == 0)))]) [] []) Tr.ret))
  (Tr.call (Task.at_ 64 0 [true, false, false, false, false, true, true] (sv 22 [(0, V.d (D.l b_0 l_1)), (3, V.d (D.i IntKind.i64 n_2)), (15, V.d (D.b false))]) [] []) Tr.ret)) :=
  rk_of (by kernel_rfl)
theorem s81 (b : Bool) (xs : List D) (c : Bool) (ys : List D) :
    rk Tryd.prog polS (Task.call 118 [V.d (D.l b xs), V.d (D.l c ys)] []) = interp (rk Tryd.prog polS) (
Tr.call (Task.call 64 [V.d (D.l b xs)] []) fun (o_0 : Out) =>
  asM o_0 fun (l_1 : List V) (m_2 : Nat) =>
    Tr.call (Task.call 64 [V.d (D.l c ys)] []) fun (o_3 : Out) =>
      asM o_3 fun (l_4 : List V) (m_5 : Nat) =>
        Tr.call (Task.call 66 [V.m 0 0 m_2, V.m 1 0 m_5] [Ob.cells l_4 [], Ob.cells l_1 []]) fun (o_6 : Out) =>
          unCons o_6.snd fun (x_7 : Ob) (l_8 : List Ob) =>
            unCells x_7 fun (l_9 : List V) (l_10 : Fl) =>
              ift (l_9.length == l_4.length)
                (ift (l_10 == [])
                  (unCons l_8 fun (x_11 : Ob) (l_12 : List Ob) =>
                    unCells x_11 fun (l_13 : List V) (l_14 : Fl) =>
                      ift (l_13.length == l_1.length)
                        (ift (l_14 == [])
                          (unNil l_12
                            (asD o_6.fst fun (d_15 : D) =>
                              asI IntKind.i64 d_15 fun (n_16 : Int) =>
                                brB (decide (n_16 < 0)) (Tr.ret (V.t [V.d (D.l true []), V.d (D.b false)], []))
                                  (Tr.call
                                    (Task.at_ 118 0 [false, true, false, true, true, true, true]
                                      (sv 55 [(0, V.m 0 0 m_2), (1, V.m 1 0 m_5), (6, V.d (D.i IntKind.u64 0)), (19, V.d (D.i IntKind.i64 (↑m_2 : Int))), (20, V.d (D.i IntKind.i64 0))]) []
                                      [Ob.cells l_9 [], Ob.cells l_13 []])
                                    Tr.ret))))))) :=
  rk_of (by kernel_rfl)
theorem s81_at175 (m_0 : Nat) (m_1 : Nat) (n_2 : Int) (n_3 : Int) (n_4 : Int) (l_5 : List V) (l_6 : List V) :
    rk Tryd.prog polS (Task.at_ 118 0 [false, true, false, true, true, true, true]
  (sv 55 [(0, V.m 0 0 m_0), (1, V.m 1 0 m_1), (6, V.d (D.i IntKind.u64 n_2)), (19, V.d (D.i IntKind.i64 n_3)), (20, V.d (D.i IntKind.i64 n_4))]) [] [Ob.cells l_5 [], Ob.cells l_6 []]) = interp (rk Tryd.prog polS) (
brB (decide (n_4 < n_3))
  (brB (decide (n_4 < (↑m_1 : Int)))
    (ift (decide (0 ≤ n_4 ∧ n_4 < (↑m_1 : Int)))
      (ob l_5[0 + n_4.toNat]? fun (v_0 : V) =>
        asD v_0 fun (d_1 : D) =>
          asI IntKind.u32 d_1 fun (n_2_1 : Int) =>
            Tr.call
              (Task.at_ 118 0 [true, true, true, false, false, true, true, false, false, true, false, true, true, true, true]
                (sv 55
                  [(0, V.m 0 0 m_0), (1, V.m 1 0 m_1), (7, V.d (D.i IntKind.i64 n_4)), (8, V.d (D.i IntKind.u64 (IntKind.u64.wrap (n_2 + IntKind.u64.wrap n_2_1)))), (19, V.d (D.i IntKind.i64 n_3)),
                    (20, V.d (D.i IntKind.i64 n_4))])
                [] [Ob.cells l_5 [], Ob.cells l_6 []])
              Tr.ret))
    (Tr.call
      (Task.at_ 118 0 [true, true, true, false, false, true, true, false, false, true, false, true, true, true, true]
        (sv 55 [(0, V.m 0 0 m_0), (1, V.m 1 0 m_1), (7, V.d (D.i IntKind.i64 n_4)), (8, V.d (D.i IntKind.u64 n_2)), (19, V.d (D.i IntKind.i64 n_3)), (20, V.d (D.i IntKind.i64 n_4))]) []
        [Ob.cells l_5 [], Ob.cells l_6 []])
      Tr.ret))
  (Tr.call (Task.call 64 [V.m 0 0 m_0] [Ob.cells l_6 []]) fun (o_3 : Out) =>
    unCons o_3.snd fun (x_4 : Ob) (l_5 : List Ob) =>
      unCells x_4 fun (l_6_1 : List V) (l_7 : Fl) =>
        ift (l_6_1.length == l_6.length) (ift (l_7 == []) (unNil l_5 (asD o_3.fst fun (d_8 : D) => asL d_8 fun (b_9 : Bool) (l_10 : List D) => Tr.ret (V.t [V.d (D.l b_9 l_10), V.d (D.b true)], [])))))) :=
  rk_of (by kernel_rfl)
theorem s81_at62255 (m_0 : Nat) (m_1 : Nat) (n_2 : Int) (n_3 : Int) (n_4 : Int) (n_5 : Int) (l_6 : List V) (l_7 : List V) :
    rk Tryd.prog polS (Task.at_ 118 0 [true, true, true, false, false, true, true, false, false, true, false, true, true, true, true]
  (sv 55 [(0, V.m 0 0 m_0), (1, V.m 1 0 m_1), (7, V.d (D.i IntKind.i64 n_2)), (8, V.d (D.i IntKind.u64 n_3)), (19, V.d (D.i IntKind.i64 n_4)), (20, V.d (D.i IntKind.i64 n_5))]) []
  [Ob.cells l_6 [], Ob.cells l_7 []]) = interp (rk Tryd.prog polS) (
ift (decide (0 ≤ n_2 ∧ n_2 < (↑m_0 : Int)))
  (ob l_7[0 + n_2.toNat]? fun (v_0 : V) =>
    asD v_0 fun (d_1 : D) =>
      asI IntKind.u32 d_1 fun (n_2_1 : Int) =>
        brB (decide (IntKind.u64.wrap n_2_1 < n_3))
          (Tr.call
            (Task.at_ 118 0 [true, true, true, true, true, true, false, false, true, true, false, false, true, false, true, true, true, true]
              (sv 55
                [(0, V.m 0 0 m_0), (1, V.m 1 0 m_1), (6, V.d (D.i IntKind.u64 1)), (7, V.d (D.i IntKind.i64 n_2)), (8, V.d (D.i IntKind.u64 n_3)),
                  (9, V.d (D.i IntKind.u64 (IntKind.u64.wrap (IntKind.u64.wrap n_2_1 + 4294967296)))), (19, V.d (D.i IntKind.i64 n_4)), (20, V.d (D.i IntKind.i64 n_5))])
              [] [Ob.cells l_6 [], Ob.cells l_7 []])
            Tr.ret)
          (Tr.call
            (Task.at_ 118 0 [true, true, true, true, true, true, false, false, true, true, false, false, true, false, true, true, true, true]
              (sv 55
                [(0, V.m 0 0 m_0), (1, V.m 1 0 m_1), (6, V.d (D.i IntKind.u64 0)), (7, V.d (D.i IntKind.i64 n_2)), (8, V.d (D.i IntKind.u64 n_3)), (9, V.d (D.i IntKind.u64 (IntKind.u64.wrap n_2_1))),
                  (19, V.d (D.i IntKind.i64 n_4)), (20, V.d (D.i IntKind.i64 n_5))])
              [] [Ob.cells l_6 [], Ob.cells l_7 []])
            Tr.ret))) :=
  rk_of (by kernel_rfl)
theorem s81_at521007 (m_0 : Nat) (m_1 : Nat) (n_2 : Int) (n_3 : Int) (n_4 : Int) (n_5 : Int) (n_6 : Int) (n_7 : Int) (l_8 : List V) (l_9 : List V) :
    rk Tryd.prog polS (Task.at_ 118 0 [true, true, true, true, true, true, false, false, true, true, false, false, true, false, true, true, true, true]
  (sv 55
    [(0, V.m 0 0 m_0), (1, V.m 1 0 m_1), (6, V.d (D.i IntKind.u64 n_2)), (7, V.d (D.i IntKind.i64 n_3)), (8, V.d (D.i IntKind.u64 n_4)), (9, V.d (D.i IntKind.u64 n_5)),
      (19, V.d (D.i IntKind.i64 n_6)), (20, V.d (D.i IntKind.i64 n_7))])
  [] [Ob.cells l_8 [], Ob.cells l_9 []]) = interp (rk Tryd.prog polS) (
ift (decide (0 ≤ n_3 ∧ n_3 < (↑m_0 : Int)))
  (ift (decide (0 + n_3.toNat < l_9.length) && true)
    (Tr.call
      (Task.at_ 118 0 [false, true, false, true, true, true, true]
        (sv 55 [(0, V.m 0 0 m_0), (1, V.m 1 0 m_1), (6, V.d (D.i IntKind.u64 n_2)), (19, V.d (D.i IntKind.i64 n_6)), (20, V.d (D.i IntKind.i64 (IntKind.i64.wrap (n_7 + 1))))]) []
        [Ob.cells l_8 [], Ob.cells (l_9.set (0 + n_3.toNat) (V.d (D.i IntKind.u32 (IntKind.u32.wrap (IntKind.u64.wrap (n_5 - n_4)))))) []])
      Tr.ret))) :=
  rk_of (by kernel_rfl)
end Go.Dn.Dec
namespace Go.Dn.Dec
open Go.Proofs
theorem cutA_loop (a : List Int) (ha : U32 a) (hb : a.length ≤ 1000000) : ∀ n : Nat, n ≤ a.length → valL (a.take n) = valL a →
    rk Tryd.prog polA (Task.at_ 64 1 [false, false, true, true] (sv 22 [(0, V.m 0 0 a.length), (3, V.d (D.i .i64 (n : Int)))]) [] [Ob.cells (cellsOf a) []]) = some (.d (nl (valL a)), [Ob.cells (cellsOf a) []])
  | 0, hn, hv => by
    rw [a51_at19]
    have h0 : valL a = 0 := by rw [← hv]; rfl
    have e : nl (valL a) = .l true [] := by rw [h0]; exact nl_of limbs_zero
    have hv0 := view_cells a 0 (by omega)
    simp [a51_at195, e, hv0, ints]
  | n + 1, hn, hv => by
    rw [a51_at19]
    have hx : n < a.length := by omega
    have gx := List.getElem?_eq_getElem hx
    have hp : (0 : Int) < (n : Int) + 1 := by omega
    have hw : IntKind.i64.wrap (n : Int) = (n : Int) := by rw [wrap_i64] <;> omega
    have hl : n + 1 ≤ 4294967296 := by omega
    have hni : (n : Int) < (a.length : Int) := by omega
    by_cases h0 : a[n] = 0
    · have ih := cutA_loop a ha hb n (by omega) (by rw [← hv]; exact (val_take_zero a n (by rw [gx, h0])).symm)
      simp [hp, hw, hni, cellsOf_get, gx, h0, a51_at195, ih]
    · have e : nl (valL a) = .l (a.take (n + 1)).isEmpty (ints .u32 (a.take (n + 1))) := by rw [← hv]; exact nl_of (limbs_take ha hx h0)
      have hle : (n : Int) + 1 ≤ (a.length : Int) := by omega
      have hp2 : (0 : Int) ≤ (n : Int) + 1 := by omega
      have ht : ((n : Int) + 1).toNat = n + 1 := by omega
      have hl2 : n + 1 ≤ a.length := by omega
      have hv1 := view_cells a (n + 1) hl2
      simp [hp, hw, hni, cellsOf_get, gx, h0, a51_at195, hle, hp2, ht, hv1, hl, e, isEmpty_ints, hl2]
theorem cutA_run (a : List Int) (ha : U32 a) (hb : a.length ≤ 1000000) : rk Tryd.prog polA (Task.call 64 [V.m 0 0 a.length] [Ob.cells (cellsOf a) []]) = some (.d (nl (valL a)), [Ob.cells (cellsOf a) []]) := by
  rw [a51]
  simp [cutA_loop a ha hb a.length (Nat.le_refl _) (by rw [List.take_length])]
theorem view_cells1 (a : List Int) (o : Ob) (n : Nat) (h : n ≤ a.length) : o_tail [Ob.cells (cellsOf a) [], o] 1 (V.m 1 0 n) = some (ints .u32 (a.take n)) := by
  simp only [o_tail, view, oget, List.length_cons, List.length_nil, Nat.zero_add, if_true]
  rw [if_pos (by rw [cellsOf_len]; omega)]
  simp only [List.drop_zero, cellsOf, ← List.map_take, take_ints, unDs_map]
theorem cutP_loop (a : List Int) (cs : List V) (ha : U32 a) (hb : a.length ≤ 1000000) : ∀ n : Nat, n ≤ a.length → valL (a.take n) = valL a →
    rk Tryd.prog polA (Task.at_ 64 2 [false, false, true, true] (sv 22 [(0, V.m 1 0 a.length), (3, V.d (D.i .i64 (n : Int)))]) [] [Ob.cells (cellsOf a) [], Ob.cells cs []]) = some (.d (nl (valL a)), [Ob.cells (cellsOf a) [], Ob.cells cs []])
  | 0, hn, hv => by
    rw [a51_at19_2]
    have h0 : valL a = 0 := by rw [← hv]; rfl
    have e : nl (valL a) = .l true [] := by rw [h0]; exact nl_of limbs_zero
    have hv0 := view_cells1 a (Ob.cells cs []) 0 (by omega)
    simp [a51_at195_1, e, hv0, ints]
  | n + 1, hn, hv => by
    rw [a51_at19_2]
    have hx : n < a.length := by omega
    have gx := List.getElem?_eq_getElem hx
    have hp : (0 : Int) < (n : Int) + 1 := by omega
    have hw : IntKind.i64.wrap (n : Int) = (n : Int) := by rw [wrap_i64] <;> omega
    have hl : n + 1 ≤ 4294967296 := by omega
    have hni : (n : Int) < (a.length : Int) := by omega
    by_cases h0 : a[n] = 0
    · have ih := cutP_loop a cs ha hb n (by omega) (by rw [← hv]; exact (val_take_zero a n (by rw [gx, h0])).symm)
      simp [hp, hw, hni, cellsOf_get, gx, h0, a51_at195_1, ih]
    · have e : nl (valL a) = .l (a.take (n + 1)).isEmpty (ints .u32 (a.take (n + 1))) := by rw [← hv]; exact nl_of (limbs_take ha hx h0)
      have hle : (n : Int) + 1 ≤ (a.length : Int) := by omega
      have hp2 : (0 : Int) ≤ (n : Int) + 1 := by omega
      have ht : ((n : Int) + 1).toNat = n + 1 := by omega
      have hl2 : n + 1 ≤ a.length := by omega
      have hv1 := view_cells1 a (Ob.cells cs []) (n + 1) hl2
      simp [hp, hw, hni, cellsOf_get, gx, h0, a51_at195_1, hle, hp2, ht, hv1, hl, e, isEmpty_ints, hl2]
theorem cutP_run (a : List Int) (cs : List V) (ha : U32 a) (hb : a.length ≤ 1000000) : rk Tryd.prog polA (Task.call 64 [V.m 1 0 a.length] [Ob.cells (cellsOf a) [], Ob.cells cs []]) = some (.d (nl (valL a)), [Ob.cells (cellsOf a) [], Ob.cells cs []]) := by
  rw [a51p]
  simp [cutP_loop a cs ha hb a.length (Nat.le_refl _) (by rw [List.take_length])]
theorem cmpA_loop (b_0 b_2 : Bool) (cs ds : List V) (a c : List Int) (ha : U32 a) (hc : U32 c) (hb : a.length ≤ 100000) (hac : a.length = c.length) : ∀ i : Nat, i ≤ a.length →
    rk Tryd.prog polA (Task.at_ 66 2 [false, true, false, true, true, true] (sv 49 [(0, V.d (D.l b_0 (ints .u32 a))), (1, V.d (D.l b_2 (ints .u32 c))), (5, V.d (D.i .i64 ((i : Int) - 1)))]) [] [Ob.cells ds [], Ob.cells cs []]) =
      some (.d (.i .i64 (cmpN (valL (a.take i)) (valL (c.take i)))), [Ob.cells ds [], Ob.cells cs []])
  | 0, hi => by
    rw [a62_at87]
    simp [cmpN]
  | i + 1, hi => by
    rw [a62_at87]
    have ih := cmpA_loop b_0 b_2 cs ds a c ha hc hb hac i (by omega)
    have hia : i < a.length := by omega
    have hic : i < c.length := by omega
    obtain ⟨u, eu, hu⟩ := ha.get hia
    obtain ⟨v, ev, hv⟩ := hc.get hic
    have ga : a[i]? = some (u : Int) := by rw [List.getElem?_eq_getElem hia, eu]
    have gc : c[i]? = some (v : Int) := by rw [List.getElem?_eq_getElem hic, ev]
    have pa := val_lt (ha.take i)
    have pc := val_lt (hc.take i)
    rw [List.length_take, Nat.min_eq_left (by omega)] at pa pc
    have e0 : (((i + 1 : Nat) : Int) - 1) = (i : Int) := by omega
    have h0 : (i : Int) ≥ 0 := by omega
    have hw : IntKind.i64.wrap ((i : Int) - 1) = (i : Int) - 1 := by rw [wrap_i64] <;> omega
    rw [e0, take_val a i hia, take_val c i hic, eu, ev]
    simp only [Int.toNat_natCast]
    generalize valL (a.take i) = p at *
    generalize valL (c.take i) = q at *
    rcases Nat.lt_trichotomy u v with h | h | h
    · have h1 : (u : Int) < (v : Int) := by omega
      have h2 : cmpN (p + W ^ i * u) (q + W ^ i * v) = -1 := by
        unfold cmpN; rw [if_pos (lex_lt pa h)]
      simp [h0, ga, gc, h1, h2]
    · subst h
      have h2 : cmpN (p + W ^ i * u) (q + W ^ i * u) = cmpN p q := by
        unfold cmpN; congr 1
        · exact propext (by omega)
        · congr 1; exact propext (by omega)
      rw [h2]
      simp [h0, ga, gc, hw, ih]
    · have h1 : ¬ (u : Int) < (v : Int) := by omega
      have h1' : (v : Int) < (u : Int) := by omega
      have h2 : cmpN (p + W ^ i * u) (q + W ^ i * v) = 1 := by
        have := lex_lt (q := p) pc h
        unfold cmpN; rw [if_neg (by omega), if_pos this]
      simp [h0, ga, gc, h1, h1', h2]
theorem val_len {a : List Int} (ha : U32 a) : (limbs (valL a)).length ≤ a.length := limbs_len (val_lt ha)
theorem cmpA_run (a c : List Int) (ha : U32 a) (hc : U32 c) (la : a.length ≤ 100000) (lc : c.length ≤ 100000) : rk Tryd.prog polA (Task.call 66 [V.m 0 0 a.length, V.m 1 0 c.length] [Ob.cells (cellsOf c) [], Ob.cells (cellsOf a) []]) = some (.d (.i .i64 (cmpN (valL a) (valL c))), [Ob.cells (cellsOf c) [], Ob.cells (cellsOf a) []]) := by
  rw [a62]
  have c1 := cutA_run a ha (by omega)
  have c2 := cutP_run c (cellsOf a) hc (by omega)
  rw [nl_ws] at c1 c2
  have lx := val_len ha
  have ly := val_len hc
  simp only [interp_call', c1, c2, Option.bind_some, unCons_c, unCells_c, unNil_n, beq_self_eq_true, interp_ift', if_true, asD_d, asL_l, ws_len, interp_brB, decide_eq_true_eq]
  generalize valL a = x at *
  generalize valL c = y at *
  by_cases h1 : (limbs x).length < (limbs y).length
  · have := len_lt h1
    rw [if_pos (by omega), cmpN, if_pos this]; rfl
  · by_cases h2 : (limbs y).length < (limbs x).length
    · have := len_lt h2
      rw [if_neg (by omega), if_pos (by omega), cmpN, if_neg (by omega), if_pos this]; rfl
    · have h3 : (limbs x).length = (limbs y).length := by omega
      have := cmpA_loop (nb x) (nb y) (cellsOf a) (cellsOf c) (limbs x) (limbs y) (limbs_u32 x) (limbs_u32 y) (by omega) h3 (limbs x).length (Nat.le_refl _)
      rw [List.take_length, h3, List.take_length, val_limbs, val_limbs] at this
      have hw : IntKind.i64.wrap (((limbs y).length : Int) - 1) = ((limbs y).length : Int) - 1 := by rw [wrap_i64] <;> omega
      rw [if_neg (by omega), if_neg (by omega), h3, hw, ws, ws, this]
      rfl
/-! ### cut that makes a row of its own -/
theorem c51_at195 (b_0 : Bool) (l_1 : List D) (n_2 : Int) (b_3 : Bool) :
    rk Tryd.prog polC (Task.at_ 64 0 [true, false, false, false, false, true, true] (sv 22 [(0, V.d (D.l b_0 l_1)), (3, V.d (D.i IntKind.i64 n_2)), (15, V.d (D.b b_3))]) [] []) = interp (rk Tryd.prog polC) (
brB b_3 (Tr.call (Task.at_ 64 0 [false, false, true, true] (sv 22 [(0, V.d (D.l b_0 l_1)), (3, V.d (D.i IntKind.i64 (IntKind.i64.wrap (n_2 - 1))))]) [] []) Tr.ret)
  (ift (decide (0 ≤ n_2 ∧ n_2 ≤ (↑l_1.length : Int)))
    (ift (headOk 1 l_1)
      (ift (headOk 1 (List.take (n_2.toNat - 0) (List.drop 0 l_1)))
        (ift (((List.take (n_2.toNat - 0) (List.drop 0 l_1)).map V.d).all V.one)
         (ift (decide ((List.take (n_2.toNat - 0) (List.drop 0 l_1)).length ≤ 4294967296))
          (ob (out1 0 (V.m 0 0 (List.take (n_2.toNat - 0) (List.drop 0 l_1)).length) [Ob.cells (List.map V.d (List.take (n_2.toNat - 0) (List.drop 0 l_1))) []]) Tr.ret))))))) :=
  rk_of (by kernel_rfl)
theorem refs_cells (a : List Int) : refsLts 0 (cellsOf a) = true := by
  refine refsLts_get.2 fun c hc => ?_
  simp only [cellsOf, ints, List.map_map, List.mem_map] at hc
  obtain ⟨z, _, rfl⟩ := hc
  rfl
theorem one_cells (a : List Int) : (cellsOf a).all V.one = true := by
  rw [List.all_eq_true]
  intro c hc
  simp only [cellsOf, ints, List.map_map, List.mem_map] at hc
  obtain ⟨z, _, rfl⟩ := hc
  rfl
theorem out_cells (a : List Int) (n : Nat) : out1 0 (V.m 0 0 n) [Ob.cells (cellsOf a) []] = some (.m 0 0 n, [.cells (cellsOf a) []]) := by
  simp [out1, oget, refs_cells, cutS]
theorem cutC_loop (b : Bool) (a : List Int) (ha : U32 a) (hb : a.length ≤ 1000000) : ∀ n : Nat, n ≤ a.length → valL (a.take n) = valL a →
    rk Tryd.prog polC (Task.at_ 64 0 [false, false, true, true] (sv 22 [(0, V.d (D.l b (ints .u32 a))), (3, V.d (D.i .i64 (n : Int)))]) [] []) = some (.m 0 0 (limbs (valL a)).length, [.cells (cellsOf (limbs (valL a))) []])
  | 0, hn, hv => by
    rw [c51_at19]
    have h0 : valL a = 0 := by rw [← hv]; rfl
    have ho : out1 0 (V.m 0 0 0) [Ob.cells [] []] = some (.m 0 0 0, [.cells [] []]) := out_cells [] 0
    have hc0 : cellsOf [] = [] := rfl
    simp [c51_at195, h0, limbs_zero, hc0, ho]
  | n + 1, hn, hv => by
    rw [c51_at19]
    have hx : n < a.length := by omega
    have gx := List.getElem?_eq_getElem hx
    have hp : (0 : Int) < (n : Int) + 1 := by omega
    have hw : IntKind.i64.wrap (n : Int) = (n : Int) := by rw [wrap_i64] <;> omega
    by_cases h0 : a[n] = 0
    · have ih := cutC_loop b a ha hb n (by omega) (by rw [← hv]; exact (val_take_zero a n (by rw [gx, h0])).symm)
      simp [hp, hw, gx, h0, c51_at195, ih]
    · have e : limbs (valL a) = a.take (n + 1) := by rw [← hv]; exact limbs_take ha hx h0
      have hle : ((0 : Int) ≤ (n : Int) + 1 ∧ (n : Int) + 1 ≤ ((ints .u32 a).length : Nat)) := by rw [len_ints]; omega
      have ht : ((n : Int) + 1).toNat = n + 1 := by omega
      have e1 : List.take ((n + 1) - 0) (List.drop 0 (ints .u32 a)) = ints .u32 (a.take (n + 1)) := by simp [take_ints]
      have e2 : (ints .u32 (a.take (n + 1))).map V.d = cellsOf (a.take (n + 1)) := rfl
      have hl : (a.take (n + 1)).length ≤ 4294967296 := by rw [List.length_take]; omega
      have hl2 : (ints .u32 (a.take (n + 1))).length = (a.take (n + 1)).length := by rw [len_ints]
      rw [e]
      have hb0 : ((a[n] : Int) == 0) = false := beq_eq_false_iff_ne.2 h0
      have hpd : ((n + 1 : Nat) : Int) > 0 := by omega
      have hn1 : ((n + 1 : Nat) : Int) = (n : Int) + 1 := by omega
      have hwi : IntKind.i64.wrap (((n + 1 : Nat) : Int) - 1) = (n : Int) := by rw [wrap_i64] <;> omega
      simp only [interp_brB, decide_eq_true hpd, if_true, hwi, interp_ob', getI_nat, get_ints, gx, Option.map_some, Option.bind_some, width_i, beq_self_eq_true, interp_ift', Int.toNat_natCast, cells_i, List.getElem?_cons_zero, interp_asI, hb0, interp_call_ret]
      rw [c51_at195, hn1, ht, e1, e2]
      simp only [interp_brB, Bool.false_eq_true, if_false, interp_ift', decide_eq_true hle, head_ints, if_true, one_cells, decide_eq_true hl, interp_ob', hl2, out_cells, Option.bind_some, interp_ret]
theorem cutC_run (b : Bool) (a : List Int) (ha : U32 a) (hb : a.length ≤ 1000000) : rk Tryd.prog polC (Task.call 64 [V.d (D.l b (ints .u32 a))] []) = some (.m 0 0 (limbs (valL a)).length, [.cells (cellsOf (limbs (valL a))) []]) := by
  rw [c51]
  simp [cutC_loop b a ha hb a.length (Nat.le_refl _) (by rw [List.take_length])]
/-! ### Sub -/
theorem cmpN_neg' (x y : Nat) : decide (cmpN x y < 0) = decide (x < y) := by
  unfold cmpN
  by_cases h : x < y
  · simp [h]
  · by_cases h2 : y < x <;> simp [h, h2]
theorem ext_callS {k : Nat} {g : List V → List Ob → Option Out} (h : polS.ext k = some g) (args : List V) (S : List Ob) : rk Tryd.prog polS (Task.call k args S) = g args S := by
  rw [rk_eq]
  simp only [stepK, h, interp_ob']
  cases g args S <;> simp
theorem unInts_ints' (a : List Int) : unInts .u32 (ints .u32 a) = some a := by
  induction a with
  | nil => rfl
  | cons z a ih => rw [ints_cons, unInts, if_pos rfl, ih]; rfl
theorem unCells_cells (a : List Int) : unCellsU (cellsOf a) = some a := by
  induction a with
  | nil => rfl
  | cons z a ih =>
    show unCellsU (V.d (.i .u32 z) :: cellsOf a) = _
    rw [unCellsU, ih]; rfl
theorem ok_u {a : List Int} (h : U32 a) (hl : a.length ≤ 100000) : okU a = true := by
  have : (a.all fun z => decide (0 ≤ z) && decide (z < 4294967296)) = true := by
    rw [List.all_eq_true]
    intro z hz
    have := h z hz
    simp [this.1, this.2]
  simp only [okU, this, Bool.true_and]
  exact decide_eq_true hl
theorem cutS_d (b : Bool) (a : List Int) (ha : U32 a) (hl : a.length ≤ 100000) : rk Tryd.prog polS (Task.call 64 [V.d (D.l b (ints .u32 a))] []) = some (.m 0 0 (limbs (valL a)).length, [.cells (cellsOf (limbs (valL a))) []]) := by
  rw [ext_callS (g := cutExtS) rfl]
  simp only [cutExtS, unInts_ints']
  rw [if_pos (ok_u ha hl)]
  simp [cellsU, cellsOf, ints]
theorem cutS_m (a : List Int) (ha : U32 a) (hl : a.length ≤ 100000) : rk Tryd.prog polS (Task.call 64 [V.m 0 0 a.length] [.cells (cellsOf a) []]) = some (.d (nl (valL a)), [.cells (cellsOf a) []]) := by
  rw [ext_callS (g := cutExtS) rfl]
  simp only [cutExtS, unCells_cells]
  rw [if_pos ⟨trivial, ok_u ha hl⟩]
theorem cmpS_m (a c : List Int) (ha : U32 a) (hc : U32 c) (hl : a.length ≤ 100000) (hlc : c.length ≤ 100000) : rk Tryd.prog polS (Task.call 66 [V.m 0 0 a.length, V.m 1 0 c.length] [.cells (cellsOf c) [], .cells (cellsOf a) []]) = some (.d (.i .i64 (cmpN (valL a) (valL c))), [.cells (cellsOf c) [], .cells (cellsOf a) []]) := by
  rw [ext_callS (g := cmpExtS) rfl]
  simp only [cmpExtS, unCells_cells]
  rw [if_pos ⟨trivial, trivial, ok_u ha hl, ok_u hc hlc⟩]
  rfl
theorem set_mid (out : List Int) (x d : Int) (r : List Int) : (out ++ x :: r).set out.length d = out ++ d :: r := by
  rw [List.set_append_right _ _ (Nat.le_refl _), Nat.sub_self]; rfl
theorem sub_last (X Y A : List Int) (i b : Nat) (n : Nat) (hi : i < X.length) (hX : X.length ≤ 100000) (T H : Nat) (b' : Nat) (R : Option Out) (hA : A.length = X.length) (hTH : T ≤ H) (hHT : H - T < 4294967296) (hH : H < 18446744073709551616)
    (h : rk Tryd.prog polS (Task.at_ 118 0 [false, true, false, true, true, true, true] (sv 55 [(0, V.m 0 0 X.length), (1, V.m 1 0 Y.length), (6, V.d (D.i IntKind.u64 (b' : Int))), (19, V.d (D.i IntKind.i64 (n : Int))), (20, V.d (D.i IntKind.i64 ((i + 1 : Nat) : Int)))]) []
        [Ob.cells (cellsOf Y) [], Ob.cells (cellsOf (A.set i ((H - T : Nat) : Int))) []]) = R) :
    rk Tryd.prog polS (Task.at_ 118 0 [true, true, true, true, true, true, false, false, true, true, false, false, true, false, true, true, true, true]
  (sv 55 [(0, V.m 0 0 X.length), (1, V.m 1 0 Y.length), (6, V.d (D.i IntKind.u64 (b' : Int))), (7, V.d (D.i IntKind.i64 (i : Int))), (8, V.d (D.i IntKind.u64 (T : Int))), (9, V.d (D.i IntKind.u64 (H : Int))), (19, V.d (D.i IntKind.i64 (n : Int))), (20, V.d (D.i IntKind.i64 (i : Int)))])
  [] [Ob.cells (cellsOf Y) [], Ob.cells (cellsOf A) []]) = R := by
  rw [s81_at521007]
  have hb1 : (0 : Int) ≤ (i : Int) ∧ (i : Int) < ((X.length : Nat) : Int) := by omega
  have hb2 : i < (cellsOf A).length := by rw [cellsOf_len]; omega
  have hw1 : IntKind.u64.wrap ((H : Int) - (T : Int)) = ((H - T : Nat) : Int) := by rw [u64_wrap]; omega
  have hw2 : IntKind.u32.wrap ((H - T : Nat) : Int) = ((H - T : Nat) : Int) := by rw [u32_wrap]; omega
  have hw3 : IntKind.i64.wrap ((i : Int) + 1) = ((i + 1 : Nat) : Int) := by rw [wrap_i64] <;> omega
  simp only [interp_ift', decide_eq_true hb1, if_true, Int.toNat_natCast, decide_eq_true hb2, Bool.and_true, hw1, hw2, hw3, Nat.zero_add, cells_set, interp_call_ret, h]
theorem sub_mid (X Y A : List Int) (i : Nat) (n : Nat) (hi : i < X.length) (hX : X.length ≤ 100000) (T x : Nat) (hx : x < 4294967296) (hT : T ≤ 4294967296) (R : Option Out) (hA : A.length = X.length) (hg : A[i]? = some (x : Int))
    (h : rk Tryd.prog polS (Task.at_ 118 0 [false, true, false, true, true, true, true] (sv 55 [(0, V.m 0 0 X.length), (1, V.m 1 0 Y.length), (6, V.d (D.i IntKind.u64 ((if x < T then 1 else 0 : Nat) : Int))), (19, V.d (D.i IntKind.i64 (n : Int))), (20, V.d (D.i IntKind.i64 ((i + 1 : Nat) : Int)))]) []
        [Ob.cells (cellsOf Y) [], Ob.cells (cellsOf (A.set i (((x + W * (if x < T then 1 else 0) - T : Nat)) : Int))) []]) = R) :
    rk Tryd.prog polS (Task.at_ 118 0 [true, true, true, false, false, true, true, false, false, true, false, true, true, true, true]
  (sv 55 [(0, V.m 0 0 X.length), (1, V.m 1 0 Y.length), (7, V.d (D.i IntKind.i64 (i : Int))), (8, V.d (D.i IntKind.u64 (T : Int))), (19, V.d (D.i IntKind.i64 (n : Int))), (20, V.d (D.i IntKind.i64 (i : Int)))]) []
  [Ob.cells (cellsOf Y) [], Ob.cells (cellsOf A) []]) = R := by
  rw [s81_at62255]
  have hb1 : (0 : Int) ≤ (i : Int) ∧ (i : Int) < ((X.length : Nat) : Int) := by omega
  have hw1 : IntKind.u64.wrap (x : Int) = (x : Int) := by rw [u64_wrap]; omega
  have hw2 : IntKind.u64.wrap ((x : Int) + 4294967296) = ((x + 4294967296 : Nat) : Int) := by rw [u64_wrap]; omega
  simp only [interp_ift', decide_eq_true hb1, if_true, Int.toNat_natCast, Nat.zero_add, cellsOf_get, hg, Option.map_some, interp_ob', Option.bind_some, asD_d, interp_asI, hw1, hw2, interp_brB, decide_eq_true_eq]
  by_cases hlt : x < T
  · have hlt' : (x : Int) < (T : Int) := by omega
    rw [if_pos hlt', interp_call_ret]
    simp only [if_pos hlt, Nat.mul_one] at h
    have e : x + W = x + 4294967296 := rfl
    rw [e] at h
    exact sub_last X Y A i 0 n hi hX T (x + 4294967296) 1 R hA (by omega) (by omega) (by omega) h
  · have hlt' : ¬ (x : Int) < (T : Int) := by omega
    rw [if_neg hlt', interp_call_ret]
    simp only [if_neg hlt, Nat.mul_zero, Nat.add_zero] at h
    exact sub_last X Y A i 0 n hi hX T x 0 R hA (by omega) (by omega) (by omega) h
theorem sub_loop (X Y : List Int) (hX : U32 X) (hY : U32 Y) (lX : X.length ≤ 100000) (lY : Y.length ≤ 100000) (hYX : Y.length ≤ X.length) (hge : valL Y ≤ valL X) : ∀ (d i : Nat) (out : List Int) (b : Nat), i + d = X.length → U32 out → out.length = i → b ≤ 1 → valL out + valL (Y.take i) = valL (X.take i) + W ^ i * b →
    rk Tryd.prog polS (Task.at_ 118 0 [false, true, false, true, true, true, true] (sv 55 [(0, V.m 0 0 X.length), (1, V.m 1 0 Y.length), (6, V.d (D.i IntKind.u64 (b : Int))), (19, V.d (D.i IntKind.i64 (X.length : Int))), (20, V.d (D.i IntKind.i64 (i : Int)))]) []
        [Ob.cells (cellsOf Y) [], Ob.cells (cellsOf (out ++ X.drop i)) []]) = some (.t [.d (nl (valL X - valL Y)), .d (.b true)], []) := by
  intro d
  induction d with
  | zero =>
    intro i out b hi hu hl hb hv
    rw [s81_at175]
    have hd : X.drop i = [] := List.drop_eq_nil_of_le (by omega)
    have hol : X.length = out.length := by omega
    have h3 : ¬ ((i : Int) < ((out.length : Nat) : Int)) := by omega
    rw [hd, List.append_nil]
    rw [List.take_of_length_le (show Y.length ≤ i by omega), List.take_of_length_le (show X.length ≤ i by omega)] at hv
    have hlt := val_lt hu
    rw [hl] at hlt
    have hb0 : b = 0 := by
      rcases (show b = 0 ∨ b = 1 by omega) with h | h
      · exact h
      · rw [h, Nat.mul_one] at hv; omega
    have hvo : valL out = valL X - valL Y := by rw [hb0, Nat.mul_zero] at hv; omega
    have hcm := cutS_m out hu (by omega)
    rw [hvo, nl_ws] at hcm
    simp only [interp_brB, decide_eq_false h3, Bool.false_eq_true, if_false, hol, interp_call', hcm, Option.bind_some, unCons_c, unCells_c, unNil_n, beq_self_eq_true, interp_ift', if_true, asD_d, asL_l, interp_ret]
    rfl
  | succ d ih =>
    intro i out b hi hu hl hb hv
    have hiX : i < X.length := by omega
    have h3 : (i : Int) < ((X.length : Nat) : Int) := by omega
    obtain ⟨x, ex, hx⟩ := hX.get hiX
    have hdr : X.drop i = (x : Int) :: X.drop (i + 1) := by rw [List.drop_eq_getElem_cons hiX, ex]
    have hg : (out ++ X.drop i)[i]? = some (x : Int) := by rw [hdr, ← hl]; simp
    have hAl : (out ++ X.drop i).length = X.length := by rw [List.length_append, List.length_drop]; omega
    have fin : ∀ T y : Nat, T = b + y → y < 4294967296 → valL (Y.take (i + 1)) = valL (Y.take i) + W ^ i * y →
        rk Tryd.prog polS (Task.at_ 118 0 [true, true, true, false, false, true, true, false, false, true, false, true, true, true, true]
  (sv 55 [(0, V.m 0 0 X.length), (1, V.m 1 0 Y.length), (7, V.d (D.i IntKind.i64 (i : Int))), (8, V.d (D.i IntKind.u64 (T : Int))), (19, V.d (D.i IntKind.i64 (X.length : Int))), (20, V.d (D.i IntKind.i64 (i : Int)))]) []
  [Ob.cells (cellsOf Y) [], Ob.cells (cellsOf (out ++ X.drop i)) []]) = some (.t [.d (nl (valL X - valL Y)), .d (.b true)], []) := by
      intro T y hT hy hyv
      refine sub_mid X Y _ i _ hiX lX T x hx (by omega) _ hAl hg ?_
      have hset : (out ++ X.drop i).set i (((x + W * (if x < T then 1 else 0) - T : Nat)) : Int) = (out ++ [((x + W * (if x < T then 1 else 0) - T : Nat) : Int)]) ++ X.drop (i + 1) := by
        rw [hdr, ← hl, set_mid]; simp
      rw [hset]
      have hd1 : x + W * (if x < T then 1 else 0) - T < 4294967296 := by unfold W; split <;> omega
      have hd2 : x + W * (if x < T then 1 else 0) - T + T = x + W * (if x < T then 1 else 0) := by unfold W; split <;> omega
      refine ih (i + 1) _ (if x < T then 1 else 0) (by omega) (hu.snoc hd1) (by simp [hl]) (by split <;> omega) ?_
      generalize x + W * (if x < T then 1 else 0) - T = dd at hd2
      rw [val_append, hl, take_val X i hiX, ex, hyv]
      simp only [valL, Int.toNat_natCast, Nat.mul_zero, Nat.add_zero]
      rw [Nat.pow_succ]
      have e1 : W ^ i * dd + W ^ i * T = W ^ i * x + W ^ i * (W * (if x < T then 1 else 0)) := by rw [← Nat.mul_add, hd2, Nat.mul_add]
      rw [hT, Nat.mul_add] at e1
      rw [← hT] at e1
      rw [Nat.mul_assoc]
      omega
    rw [s81_at175]
    by_cases hiY : i < Y.length
    · have h4 : (i : Int) < ((Y.length : Nat) : Int) := by omega
      obtain ⟨y, ey, hy⟩ := hY.get hiY
      have gy : Y[i]? = some (y : Int) := by rw [List.getElem?_eq_getElem hiY, ey]
      have hb1 : (0 : Int) ≤ (i : Int) ∧ (i : Int) < ((Y.length : Nat) : Int) := by omega
      have hw : IntKind.u64.wrap ((b : Int) + IntKind.u64.wrap (y : Int)) = ((b + y : Nat) : Int) := by rw [u64_wrap (y : Int), u64_wrap]; omega
      simp only [interp_brB, decide_eq_true h3, decide_eq_true h4, if_true, interp_ift', decide_eq_true hb1, Int.toNat_natCast, Nat.zero_add, cellsOf_get, gy, Option.map_some, interp_ob', Option.bind_some, asD_d, interp_asI, hw, interp_call_ret]
      exact fin (b + y) y rfl hy (by rw [take_val Y i hiY, ey, Int.toNat_natCast])
    · have h4 : ¬ (i : Int) < ((Y.length : Nat) : Int) := by omega
      simp only [interp_brB, decide_eq_true h3, decide_eq_false h4, if_true, Bool.false_eq_true, if_false, interp_call_ret]
      exact fin b 0 rfl (by decide) (by rw [List.take_of_length_le (by omega), List.take_of_length_le (by omega)]; simp)
theorem sub_run (b c : Bool) (a e : List Int) (ha : U32 a) (he : U32 e) (la : a.length ≤ 100000) (le : e.length ≤ 100000) : rk Tryd.prog polS (Task.call 118 [V.d (D.l b (ints .u32 a)), V.d (D.l c (ints .u32 e))] []) = some (subR (valL a) (valL e), []) := by
  rw [s81]
  have lx := val_len ha
  have ly := val_len he
  have c1 := cutS_d b a ha la
  have c2 := cutS_d c e he le
  have c3 := cmpS_m (limbs (valL a)) (limbs (valL e)) (limbs_u32 _) (limbs_u32 _) (by omega) (by omega)
  rw [val_limbs, val_limbs] at c3
  simp only [interp_call', c1, Option.bind_some, interp_asM, refs_cells, if_true, c2, c3, unCons_c, unCells_c, unNil_n, beq_self_eq_true, interp_ift', asD_d, interp_asI, interp_brB, cmpN_neg']
  unfold subR
  by_cases h : valL a < valL e
  · rw [if_pos (by simpa using h), if_pos h]; rfl
  · rw [if_neg (by simpa using h), if_neg h]
    have hll : (limbs (valL e)).length ≤ (limbs (valL a)).length := by
      rcases Nat.lt_or_ge (limbs (valL a)).length (limbs (valL e)).length with h' | h'
      · exact absurd (len_lt h') h
      · exact h'
    have := sub_loop (limbs (valL a)) (limbs (valL e)) (limbs_u32 _) (limbs_u32 _) (by omega) (by omega) hll (by rw [val_limbs, val_limbs]; omega) (limbs (valL a)).length 0 [] 0 (by omega) U32.nil rfl (by decide) (by simp [valL])
    rw [val_limbs, val_limbs, List.nil_append, List.drop_zero, Int.natCast_zero] at this
    rw [this]; rfl
end Go.Dn.Dec
namespace Go.Proofs
open Go.Shelf
def Tryd.lays161_ren : Go.Shelf.Ren := ⟨fun | 161 => 108 | 231 => 124 | 227 => 73 | 233 => 125 | 235 => 126 | 228 => 101 | 197 => 120 | 151 => 103 | 260 => 131 | 152 => 121 | 137 => 40 | 119 => 132 | 224 => 114 | 225 => 113 | 217 => 78 | 266 => 105 | n => n, fun | 9 => 9 | 4 => 4 | 3 => 3 | 5 => 5 | 117 => 133 | 116 => 132 | 0 => 0 | 124 => 136 | 105 => 154 | 21 => 21 | 119 => 188 | 46 => 91 | 139 => 191 | 138 => 190 | n => n, fun | 3 => 4 | 4 => 5 | n => n⟩
theorem Tryd.lays161 : Go.Proofs.Lays.n161 Tryd.prog Tryd.lays161_ren := {
  mixed := by kernel_rfl
  f119 := Tryd.func132.trans (congrArg some (by kernel_rfl))
  f137 := Tryd.func40.trans (congrArg some (by kernel_rfl))
  f151 := Tryd.func103.trans (congrArg some (by kernel_rfl))
  f152 := Tryd.func121.trans (congrArg some (by kernel_rfl))
  f161 := Tryd.func108.trans (congrArg some (by kernel_rfl))
  f197 := Tryd.func120.trans (congrArg some (by kernel_rfl))
  f217 := Tryd.func78.trans (congrArg some (by kernel_rfl))
  f224 := Tryd.func114.trans (congrArg some (by kernel_rfl))
  f225 := Tryd.func113.trans (congrArg some (by kernel_rfl))
  f227 := Tryd.func73.trans (congrArg some (by kernel_rfl))
  f228 := Tryd.func101.trans (congrArg some (by kernel_rfl))
  f231 := Tryd.func124.trans (congrArg some (by kernel_rfl))
  f233 := Tryd.func125.trans (congrArg some (by kernel_rfl))
  f235 := Tryd.func126.trans (congrArg some (by kernel_rfl))
  f260 := Tryd.func131.trans (congrArg some (by kernel_rfl))
  f266 := Tryd.func105.trans (congrArg some (by kernel_rfl))
  t0 := Tryd.underlying0
  a0 := Tryd.isAgg0
  z0 := Tryd.sizeOf0
  v0 := Tryd.zeroValue0
  t3 := Tryd.underlying3
  a3 := Tryd.isAgg3
  z3 := Tryd.sizeOf3
  v3 := Tryd.zeroValue3
  t4 := Tryd.underlying4
  a4 := Tryd.isAgg4
  z4 := Tryd.sizeOf4
  v4 := Tryd.zeroValue4
  t5 := Tryd.underlying5
  a5 := Tryd.isAgg5
  z5 := Tryd.sizeOf5
  v5 := Tryd.zeroValue5
  t9 := Tryd.underlying9
  a9 := Tryd.isAgg9
  z9 := Tryd.sizeOf9
  v9 := Tryd.zeroValue9
  t21 := Tryd.underlying21
  a21 := Tryd.isAgg21
  z21 := Tryd.sizeOf21
  v21 := Tryd.zeroValue21
  t46 := Tryd.underlying91
  a46 := Tryd.isAgg91
  z46 := Tryd.sizeOf91
  v46 := Tryd.zeroValue91
  t105 := Tryd.underlying154
  a105 := Tryd.isAgg154
  z105 := Tryd.sizeOf154
  v105 := Tryd.zeroValue154
  t116 := Tryd.underlying132
  a116 := Tryd.isAgg132
  z116 := Tryd.sizeOf132
  t117 := Tryd.underlying133
  a117 := Tryd.isAgg133
  z117 := Tryd.sizeOf133
  v117 := Tryd.zeroValue133
  t119 := Tryd.underlying188
  a119 := Tryd.isAgg188
  z119 := Tryd.sizeOf188
  t124 := Tryd.underlying136
  a124 := Tryd.isAgg136
  z124 := Tryd.sizeOf136
  v124 := Tryd.zeroValue136
  t138 := Tryd.underlying190
  a138 := Tryd.isAgg190
  z138 := Tryd.sizeOf190
  v138 := Tryd.zeroValue190
  t139 := Tryd.underlying191
  a139 := Tryd.isAgg191
  z139 := Tryd.sizeOf191
  v139 := Tryd.zeroValue191
  g3 := by kernel_rfl
  g4 := by kernel_rfl }
open Go.RowKit in
/-- strings.TrimLeft: "TrimLeft returns a slice of the string s with all leading Unicode code points contained in cutset removed.": AT A cutset OF ONE ASCII BYTE. The world is as it was. (LAID: no walk: one application.) -/
theorem Tryd.strings_TrimLeft_one (s : ByteArray) (c : UInt8) (hc : c.toNat < 128) (w : World) :
    Calls Tryd.prog 108 #[.string s, .string ⟨#[c]⟩] w fun e w' => e = .returned (.string ⟨(Lib.trimLeftB s.data.toList c).toArray⟩) ∧ w' = w := Any.strings_TrimLeft_one Tryd.lays161 s c hc w
def Tryd.lays162_ren : Go.Shelf.Ren := ⟨fun | 162 => 37 | 232 => 72 | 227 => 73 | 234 => 74 | 236 => 75 | 228 => 101 | 271 => 102 | 151 => 103 | 120 => 119 | 197 => 120 | 152 => 121 | 260 => 131 | 137 => 40 | 119 => 132 | 224 => 114 | 225 => 113 | 217 => 78 | 266 => 105 | n => n, fun | 9 => 9 | 4 => 4 | 3 => 3 | 5 => 5 | 117 => 133 | 116 => 132 | 0 => 0 | 124 => 136 | 21 => 21 | 105 => 154 | 46 => 91 | 119 => 188 | 139 => 191 | 138 => 190 | n => n, fun | 3 => 4 | 4 => 5 | n => n⟩
theorem Tryd.lays162 : Go.Proofs.Lays.n162 Tryd.prog Tryd.lays162_ren := {
  mixed := by kernel_rfl
  f119 := Tryd.func132.trans (congrArg some (by kernel_rfl))
  f120 := Tryd.func119.trans (congrArg some (by kernel_rfl))
  f137 := Tryd.func40.trans (congrArg some (by kernel_rfl))
  f151 := Tryd.func103.trans (congrArg some (by kernel_rfl))
  f152 := Tryd.func121.trans (congrArg some (by kernel_rfl))
  f162 := Tryd.func37.trans (congrArg some (by kernel_rfl))
  f197 := Tryd.func120.trans (congrArg some (by kernel_rfl))
  f217 := Tryd.func78.trans (congrArg some (by kernel_rfl))
  f224 := Tryd.func114.trans (congrArg some (by kernel_rfl))
  f225 := Tryd.func113.trans (congrArg some (by kernel_rfl))
  f227 := Tryd.func73.trans (congrArg some (by kernel_rfl))
  f228 := Tryd.func101.trans (congrArg some (by kernel_rfl))
  f232 := Tryd.func72.trans (congrArg some (by kernel_rfl))
  f234 := Tryd.func74.trans (congrArg some (by kernel_rfl))
  f236 := Tryd.func75.trans (congrArg some (by kernel_rfl))
  f260 := Tryd.func131.trans (congrArg some (by kernel_rfl))
  f266 := Tryd.func105.trans (congrArg some (by kernel_rfl))
  f271 := Tryd.func102.trans (congrArg some (by kernel_rfl))
  t0 := Tryd.underlying0
  a0 := Tryd.isAgg0
  z0 := Tryd.sizeOf0
  v0 := Tryd.zeroValue0
  t3 := Tryd.underlying3
  a3 := Tryd.isAgg3
  z3 := Tryd.sizeOf3
  v3 := Tryd.zeroValue3
  t4 := Tryd.underlying4
  a4 := Tryd.isAgg4
  z4 := Tryd.sizeOf4
  v4 := Tryd.zeroValue4
  t5 := Tryd.underlying5
  a5 := Tryd.isAgg5
  z5 := Tryd.sizeOf5
  v5 := Tryd.zeroValue5
  t9 := Tryd.underlying9
  a9 := Tryd.isAgg9
  z9 := Tryd.sizeOf9
  v9 := Tryd.zeroValue9
  t21 := Tryd.underlying21
  a21 := Tryd.isAgg21
  z21 := Tryd.sizeOf21
  v21 := Tryd.zeroValue21
  t46 := Tryd.underlying91
  a46 := Tryd.isAgg91
  z46 := Tryd.sizeOf91
  v46 := Tryd.zeroValue91
  t105 := Tryd.underlying154
  a105 := Tryd.isAgg154
  z105 := Tryd.sizeOf154
  v105 := Tryd.zeroValue154
  t116 := Tryd.underlying132
  a116 := Tryd.isAgg132
  z116 := Tryd.sizeOf132
  t117 := Tryd.underlying133
  a117 := Tryd.isAgg133
  z117 := Tryd.sizeOf133
  v117 := Tryd.zeroValue133
  t119 := Tryd.underlying188
  a119 := Tryd.isAgg188
  z119 := Tryd.sizeOf188
  t124 := Tryd.underlying136
  a124 := Tryd.isAgg136
  z124 := Tryd.sizeOf136
  v124 := Tryd.zeroValue136
  t138 := Tryd.underlying190
  a138 := Tryd.isAgg190
  z138 := Tryd.sizeOf190
  v138 := Tryd.zeroValue190
  t139 := Tryd.underlying191
  a139 := Tryd.isAgg191
  z139 := Tryd.sizeOf191
  v139 := Tryd.zeroValue191
  g3 := by kernel_rfl
  g4 := by kernel_rfl }
open Go.RowKit in
/-- strings.TrimRight: "TrimRight returns a slice of the string s, with all trailing Unicode code points contained in cutset removed.": AT A cutset OF ONE ASCII BYTE. The world is as it was. (LAID: no walk: one application.) -/
theorem Tryd.strings_TrimRight_one (s : ByteArray) (c : UInt8) (hc : c.toNat < 128) (w : World) (hs : s.size ≤ 9223372036854775807) :
    Calls Tryd.prog 37 #[.string s, .string ⟨#[c]⟩] w fun e w' => e = .returned (.string ⟨(Lib.trimRightB s.data.toList c).toArray⟩) ∧ w' = w := Any.strings_TrimRight_one Tryd.lays162 s c hc w hs
def Tryd.lays128_ren : Go.Shelf.Ren := ⟨fun | 128 => 65 | n => n, fun | 51 => 124 | 3 => 3 | 4 => 4 | 46 => 91 | 5 => 5 | 9 => 9 | n => n, fun | n => n⟩
theorem Tryd.lays128 : Go.Proofs.Lays.n128 Tryd.prog Tryd.lays128_ren := {
  mixed := by kernel_rfl
  f128 := Tryd.func65.trans (congrArg some (by kernel_rfl))
  t3 := Tryd.underlying3
  a3 := Tryd.isAgg3
  z3 := Tryd.sizeOf3
  v3 := Tryd.zeroValue3
  t4 := Tryd.underlying4
  a4 := Tryd.isAgg4
  z4 := Tryd.sizeOf4
  v4 := Tryd.zeroValue4
  t5 := Tryd.underlying5
  a5 := Tryd.isAgg5
  z5 := Tryd.sizeOf5
  v5 := Tryd.zeroValue5
  t9 := Tryd.underlying9
  a9 := Tryd.isAgg9
  z9 := Tryd.sizeOf9
  v9 := Tryd.zeroValue9
  t46 := Tryd.underlying91
  a46 := Tryd.isAgg91
  z46 := Tryd.sizeOf91
  v46 := Tryd.zeroValue91
  t51 := Tryd.underlying124
  a51 := Tryd.isAgg124
  z51 := Tryd.sizeOf124
  v51 := Tryd.zeroValue124 }
/-- bits.Len32: "Len32 returns the minimum number of bits required to represent x; the result is 0 for x == 0.": IT RETURNS 'Lib.bitLen x'; the world is as it was. ('h0', 'h1': x is a uint32.) (LAID: no walk: one application.) -/
theorem Tryd.bits_Len32 (x : Int) (w : World) (h0 : 0 ≤ x) (h1 : x ≤ 4294967295) :
    Calls Tryd.prog 65 #[.int .u32 x] w fun e w' => e = .returned (.int .i64 (Lib.bitLen x.toNat)) ∧ w' = w := Any.bits_Len32 Tryd.lays128 x w h0 h1
def Tryd.lays137_ren : Go.Shelf.Ren := ⟨fun | 137 => 40 | 217 => 78 | 266 => 105 | n => n, fun | 9 => 9 | 5 => 5 | 3 => 3 | n => n, fun | n => n⟩
theorem Tryd.lays137 : Go.Proofs.Lays.n137 Tryd.prog Tryd.lays137_ren := {
  mixed := by kernel_rfl
  f137 := Tryd.func40.trans (congrArg some (by kernel_rfl))
  f217 := Tryd.func78.trans (congrArg some (by kernel_rfl))
  f266 := Tryd.func105.trans (congrArg some (by kernel_rfl))
  t3 := Tryd.underlying3
  a3 := Tryd.isAgg3
  z3 := Tryd.sizeOf3
  v3 := Tryd.zeroValue3
  t5 := Tryd.underlying5
  a5 := Tryd.isAgg5
  z5 := Tryd.sizeOf5
  v5 := Tryd.zeroValue5
  t9 := Tryd.underlying9
  a9 := Tryd.isAgg9
  z9 := Tryd.sizeOf9
  v9 := Tryd.zeroValue9 }
open Go.RowKit in
/-- strings.IndexByte: "IndexByte returns the index of the first instance of c in s, or -1 if c is not present in s.": IT RETURNS 'Lib.indexByte s c'; the world is as it was. (LAID: no walk: one application.) -/
theorem Tryd.strings_IndexByte (s : ByteArray) (c : Int) (w : World) :
    Calls Tryd.prog 40 #[.string s, .int .u8 c] w fun e w' => e = .returned (.int .i64 (Lib.indexByte s.data.toList c.toNat.toUInt8)) ∧ w' = w := Any.strings_IndexByte Tryd.lays137 s c w
def Tryd.lays283_ren : Go.Shelf.Ren := ⟨fun | 283 => 58 | n => n, fun | 3 => 3 | 9 => 9 | 4 => 4 | n => n, fun | n => n⟩
theorem Tryd.lays283 : Go.Proofs.Lays.n283 Tryd.prog Tryd.lays283_ren := {
  mixed := by kernel_rfl
  f283 := Tryd.func58.trans (congrArg some (by kernel_rfl))
  t3 := Tryd.underlying3
  a3 := Tryd.isAgg3
  z3 := Tryd.sizeOf3
  v3 := Tryd.zeroValue3
  t4 := Tryd.underlying4
  a4 := Tryd.isAgg4
  z4 := Tryd.sizeOf4
  v4 := Tryd.zeroValue4
  t9 := Tryd.underlying9
  a9 := Tryd.isAgg9
  z9 := Tryd.sizeOf9
  v9 := Tryd.zeroValue9 }
open Go.Lib in
/-- internal/strconv.small: "small returns the string for an i with 0 <= i < nSmalls.": i's decimal numeral. The world is as it was. (LAID: no walk: one application.) -/
theorem Tryd.internal_strconv_small (i : Nat) (h : i < 100) (w : World) :
    Calls Tryd.prog 58 #[.int .i64 i] w fun e w' => e = .returned (.string ⟨(Lib.decDigits i).toArray⟩) ∧ w' = w := Any.internal_strconv_small Tryd.lays283 i h w
def Tryd.laysM284_ren : Go.Shelf.Ren := ⟨fun | 284 => 59 | 129 => 92 | 317 => 91 | 318 => 93 | n => n, fun | 53 => 23 | 3 => 3 | 212 => 147 | 0 => 0 | 4 => 4 | 46 => 91 | 5 => 5 | 9 => 9 | n => n, fun | 17 => 0 | n => n⟩
theorem Tryd.laysM284 : Go.Proofs.LaysM.n284 Tryd.prog Tryd.laysM284_ren := {
  mixed := by kernel_rfl
  f129 := Tryd.func92.trans (congrArg some (by kernel_rfl))
  f284 := Tryd.func59.trans (congrArg some (by kernel_rfl))
  f317 := Tryd.func91.trans (congrArg some (by kernel_rfl))
  f318 := Tryd.func93.trans (congrArg some (by kernel_rfl))
  t0 := Tryd.underlying0
  a0 := Tryd.isAgg0
  z0 := Tryd.sizeOf0
  v0 := Tryd.zeroValue0
  t3 := Tryd.underlying3
  a3 := Tryd.isAgg3
  z3 := Tryd.sizeOf3
  v3 := Tryd.zeroValue3
  t4 := Tryd.underlying4
  a4 := Tryd.isAgg4
  z4 := Tryd.sizeOf4
  v4 := Tryd.zeroValue4
  t5 := Tryd.underlying5
  a5 := Tryd.isAgg5
  z5 := Tryd.sizeOf5
  v5 := Tryd.zeroValue5
  t9 := Tryd.underlying9
  a9 := Tryd.isAgg9
  z9 := Tryd.sizeOf9
  v9 := Tryd.zeroValue9
  t46 := Tryd.underlying91
  a46 := Tryd.isAgg91
  z46 := Tryd.sizeOf91
  v46 := Tryd.zeroValue91
  t53 := Tryd.underlying23
  a53 := Tryd.isAgg23
  z53 := Tryd.sizeOf23
  v53 := Tryd.zeroValue23
  t212 := Tryd.underlying147
  a212 := Tryd.isAgg147
  z212 := Tryd.sizeOf147
  v212 := Tryd.zeroValue147
  g17 := by kernel_rfl
  i0 := by kernel_rfl
  i3 := by kernel_rfl
  i4 := by kernel_rfl
  i5 := by kernel_rfl
  i9 := by kernel_rfl
  i46 := by kernel_rfl
  i53 := by kernel_rfl
  i212 := by kernel_rfl
  m17 := by kernel_rfl }
open Go.Lib in
/-- internal/strconv.numDigits, at a d that is not 0: THE NUMBER OF d's DECIMAL DIGITS. The world is as it was. (LAID: no walk: one application.) -/
theorem Tryd.internal_strconv_numDigits (u : Nat) (h1 : 1 ≤ u) (h2 : u < 18446744073709551616) (w : World) (htab : Lib.TabIs Tryd.prog w "internal/strconv.uint64pow10" .u64 Lib.pow10Tab) :
    Calls Tryd.prog 59 #[.int .u64 u] w fun e w' => e = .returned (.int .i64 (Lib.nDigits u)) ∧ w' = w := Any.internal_strconv_numDigits Tryd.laysM284 u h1 h2 w htab
def Tryd.lays285_ren : Go.Shelf.Ren := ⟨fun | 285 => 60 | n => n, fun | 37 => 57 | 53 => 23 | 3 => 3 | 4 => 4 | 51 => 124 | 9 => 9 | 5 => 5 | 0 => 0 | n => n, fun | n => n⟩
theorem Tryd.lays285 : Go.Proofs.Lays.n285 Tryd.prog Tryd.lays285_ren := {
  mixed := by kernel_rfl
  f285 := Tryd.func60.trans (congrArg some (by kernel_rfl))
  t0 := Tryd.underlying0
  a0 := Tryd.isAgg0
  z0 := Tryd.sizeOf0
  v0 := Tryd.zeroValue0
  t3 := Tryd.underlying3
  a3 := Tryd.isAgg3
  z3 := Tryd.sizeOf3
  v3 := Tryd.zeroValue3
  t4 := Tryd.underlying4
  a4 := Tryd.isAgg4
  z4 := Tryd.sizeOf4
  v4 := Tryd.zeroValue4
  t5 := Tryd.underlying5
  a5 := Tryd.isAgg5
  z5 := Tryd.sizeOf5
  v5 := Tryd.zeroValue5
  t9 := Tryd.underlying9
  a9 := Tryd.isAgg9
  z9 := Tryd.sizeOf9
  v9 := Tryd.zeroValue9
  t37 := Tryd.underlying57
  a37 := Tryd.isAgg57
  z37 := Tryd.sizeOf57
  v37 := Tryd.zeroValue57
  t51 := Tryd.underlying124
  a51 := Tryd.isAgg124
  z51 := Tryd.sizeOf124
  v51 := Tryd.zeroValue124
  t53 := Tryd.underlying23
  a53 := Tryd.isAgg23
  z53 := Tryd.sizeOf23
  v53 := Tryd.zeroValue23 }
open Go.RowKit Go.Sort Go.Lib in
/-- internal/strconv.formatBase10: "formatBase10 formats the decimal representation of u into a. The caller is responsible for ensuring that a is big enough to hold u. If a is too big, leading zeros will be filled in as needed.": THE ROW HOLDS u's DIGITS ('FmtInv .. 0 ..': every place t holds 'dg u (len - 1 - t)'); all else is as it was but for the count of draws. (LAID: no walk: one application.) -/
theorem Tryd.internal_strconv_formatBase10 (blk off cap : Nat) (u : Nat) (d : Array UInt8) (w : World) (hH : Holds (fun (b : UInt8) => Value.int .u8 (b.toNat : Int)) w blk off d) (hu : u < 10 ^ d.size) (hu64 : u < 18446744073709551616) (hsz : d.size < 4611686018427387904) :
    Calls Tryd.prog 60 #[.slice (some ⟨blk, off, none⟩) d.size cap, .int .u64 u] w fun e w' =>
      e = .returned (.tuple #[]) ∧ ∃ (n v' : Nat) (dk : Array UInt8), w' = (putRow (fun (b : UInt8) => Value.int .u8 (b.toNat : Int)) w blk off dk).drewN n ∧ FmtInv d.size u 0 v' dk := Any.internal_strconv_formatBase10 Tryd.lays285 blk off cap u d w hH hu hu64 hsz
def Tryd.laysM171_ren : Go.Shelf.Ren := ⟨fun | 171 => 38 | 243 => 76 | 246 => 31 | 283 => 58 | 284 => 59 | 285 => 60 | 286 => 61 | 129 => 92 | 317 => 91 | 318 => 93 | 319 => 94 | 320 => 95 | 337 => 116 | 338 => 117 | n => n, fun | 3 => 3 | 9 => 9 | 2 => 2 | 4 => 4 | 171 => 115 | 0 => 0 | 53 => 23 | 37 => 57 | 5 => 5 | 173 => 118 | 212 => 147 | 51 => 124 | 20 => 20 | 213 => 148 | 46 => 91 | 232 => 180 | 233 => 181 | n => n, fun | 17 => 0 | 18 => 2 | 19 => 3 | n => n⟩
theorem Tryd.laysM171 : Go.Proofs.LaysM.n171 Tryd.prog Tryd.laysM171_ren := {
  mixed := by kernel_rfl
  f129 := Tryd.func92.trans (congrArg some (by kernel_rfl))
  f171 := Tryd.func38.trans (congrArg some (by kernel_rfl))
  f243 := Tryd.func76.trans (congrArg some (by kernel_rfl))
  f246 := Tryd.func31.trans (congrArg some (by kernel_rfl))
  f283 := Tryd.func58.trans (congrArg some (by kernel_rfl))
  f284 := Tryd.func59.trans (congrArg some (by kernel_rfl))
  f285 := Tryd.func60.trans (congrArg some (by kernel_rfl))
  f286 := Tryd.func61.trans (congrArg some (by kernel_rfl))
  f317 := Tryd.func91.trans (congrArg some (by kernel_rfl))
  f318 := Tryd.func93.trans (congrArg some (by kernel_rfl))
  f319 := Tryd.func94.trans (congrArg some (by kernel_rfl))
  f320 := Tryd.func95.trans (congrArg some (by kernel_rfl))
  f337 := Tryd.func116.trans (congrArg some (by kernel_rfl))
  f338 := Tryd.func117.trans (congrArg some (by kernel_rfl))
  t0 := Tryd.underlying0
  a0 := Tryd.isAgg0
  z0 := Tryd.sizeOf0
  v0 := Tryd.zeroValue0
  t2 := Tryd.underlying2
  a2 := Tryd.isAgg2
  z2 := Tryd.sizeOf2
  v2 := Tryd.zeroValue2
  t3 := Tryd.underlying3
  a3 := Tryd.isAgg3
  z3 := Tryd.sizeOf3
  v3 := Tryd.zeroValue3
  t4 := Tryd.underlying4
  a4 := Tryd.isAgg4
  z4 := Tryd.sizeOf4
  v4 := Tryd.zeroValue4
  t5 := Tryd.underlying5
  a5 := Tryd.isAgg5
  z5 := Tryd.sizeOf5
  v5 := Tryd.zeroValue5
  t9 := Tryd.underlying9
  a9 := Tryd.isAgg9
  z9 := Tryd.sizeOf9
  v9 := Tryd.zeroValue9
  t20 := Tryd.underlying20
  a20 := Tryd.isAgg20
  z20 := Tryd.sizeOf20
  v20 := Tryd.zeroValue20
  t37 := Tryd.underlying57
  a37 := Tryd.isAgg57
  z37 := Tryd.sizeOf57
  v37 := Tryd.zeroValue57
  t46 := Tryd.underlying91
  a46 := Tryd.isAgg91
  z46 := Tryd.sizeOf91
  v46 := Tryd.zeroValue91
  t51 := Tryd.underlying124
  a51 := Tryd.isAgg124
  z51 := Tryd.sizeOf124
  v51 := Tryd.zeroValue124
  t53 := Tryd.underlying23
  a53 := Tryd.isAgg23
  z53 := Tryd.sizeOf23
  v53 := Tryd.zeroValue23
  t171 := Tryd.underlying115
  a171 := Tryd.isAgg115
  z171 := Tryd.sizeOf115
  v171 := Tryd.zeroValue115
  t173 := Tryd.underlying118
  a173 := Tryd.isAgg118
  z173 := Tryd.sizeOf118
  v173 := Tryd.zeroValue118
  t212 := Tryd.underlying147
  a212 := Tryd.isAgg147
  z212 := Tryd.sizeOf147
  v212 := Tryd.zeroValue147
  t213 := Tryd.underlying148
  a213 := Tryd.isAgg148
  z213 := Tryd.sizeOf148
  t232 := Tryd.underlying180
  a232 := Tryd.isAgg180
  z232 := Tryd.sizeOf180
  v232 := Tryd.zeroValue180
  t233 := Tryd.underlying181
  a233 := Tryd.isAgg181
  z233 := Tryd.sizeOf181
  v233 := Tryd.zeroValue181
  g17 := by kernel_rfl
  g18 := by kernel_rfl
  g19 := by kernel_rfl
  i0 := by kernel_rfl
  i2 := by kernel_rfl
  i3 := by kernel_rfl
  i4 := by kernel_rfl
  i5 := by kernel_rfl
  i9 := by kernel_rfl
  i20 := by kernel_rfl
  i37 := by kernel_rfl
  i46 := by kernel_rfl
  i51 := by kernel_rfl
  i53 := by kernel_rfl
  i171 := by kernel_rfl
  i173 := by kernel_rfl
  i212 := by kernel_rfl
  i232 := by kernel_rfl
  i233 := by kernel_rfl
  m17 := by kernel_rfl
  m18 := by kernel_rfl
  m19 := by kernel_rfl }
open Go.RowKit Go.Sort Go.Lib in
/-- strconv.Itoa: "Itoa is equivalent to FormatInt(int64(i), 10).": i's DECIMAL NUMERAL ('Lib.itoa': a '-' where i is negative, then the digits), FOR EVERY int. The world behind the call: the world before it, new blocks behind the heap (the library's 'var a [24]byte'), draws. (LAID: no walk: one application.) -/
theorem Tryd.strconv_Itoa (n : Int) (h0 : -9223372036854775808 ≤ n) (h1 : n ≤ 9223372036854775807) (w : World) (htab : Lib.TabIs Tryd.prog w "internal/strconv.uint64pow10" .u64 Lib.pow10Tab) :
    Calls Tryd.prog 38 #[.int .i64 n] w fun e w' => e = .returned (.string ⟨(Lib.itoa n).toArray⟩) ∧ ∃ k os, w' = grow (w.drewN k) os := Any.strconv_Itoa Tryd.laysM171 n h0 h1 w htab
def Tryd.lays143_ren : Go.Shelf.Ren := ⟨fun | 143 => 56 | 219 => 90 | 217 => 78 | 225 => 113 | 224 => 114 | 267 => 115 | 266 => 105 | 314 => 130 | n => n, fun | 9 => 9 | 3 => 3 | 4 => 4 | 5 => 5 | 46 => 91 | 146 => 178 | 51 => 124 | n => n, fun | 1 => 1 | n => n⟩
theorem Tryd.lays143 : Go.Proofs.Lays.n143 Tryd.prog Tryd.lays143_ren := {
  mixed := by kernel_rfl
  f143 := Tryd.func56.trans (congrArg some (by kernel_rfl))
  f217 := Tryd.func78.trans (congrArg some (by kernel_rfl))
  f219 := Tryd.func90.trans (congrArg some (by kernel_rfl))
  f224 := Tryd.func114.trans (congrArg some (by kernel_rfl))
  f225 := Tryd.func113.trans (congrArg some (by kernel_rfl))
  f266 := Tryd.func105.trans (congrArg some (by kernel_rfl))
  f267 := Tryd.func115.trans (congrArg some (by kernel_rfl))
  f314 := Tryd.func130.trans (congrArg some (by kernel_rfl))
  t3 := Tryd.underlying3
  a3 := Tryd.isAgg3
  z3 := Tryd.sizeOf3
  v3 := Tryd.zeroValue3
  t4 := Tryd.underlying4
  a4 := Tryd.isAgg4
  z4 := Tryd.sizeOf4
  v4 := Tryd.zeroValue4
  t5 := Tryd.underlying5
  a5 := Tryd.isAgg5
  z5 := Tryd.sizeOf5
  v5 := Tryd.zeroValue5
  t9 := Tryd.underlying9
  a9 := Tryd.isAgg9
  z9 := Tryd.sizeOf9
  v9 := Tryd.zeroValue9
  t46 := Tryd.underlying91
  a46 := Tryd.isAgg91
  z46 := Tryd.sizeOf91
  v46 := Tryd.zeroValue91
  t51 := Tryd.underlying124
  a51 := Tryd.isAgg124
  z51 := Tryd.sizeOf124
  v51 := Tryd.zeroValue124
  t146 := Tryd.underlying178
  a146 := Tryd.isAgg178
  z146 := Tryd.sizeOf178
  v146 := Tryd.zeroValue178
  g1 := by kernel_rfl }
open Go.RowKit Go.Lib in
/-- strings.Index: "Index returns the index of the first instance of substr in s, or -1 if substr is not present in s.": IT RETURNS 'Lib.index s substr'; the world is as it was. (LAID: no walk: one application.) -/
theorem Tryd.strings_Index (s sub : ByteArray) (m : Int) (w : World) (hs : s.size < 4294967281) (hm : w.cell? ⟨1, 0, none⟩ = some (.int .i64 m)) :
    Calls Tryd.prog 56 #[.string s, .string sub] w fun e w' => e = .returned (.int .i64 (Lib.index s.data.toList sub.data.toList)) ∧ w' = w := Any.strings_Index Tryd.lays143 s sub m w hs hm
def Tryd.lays144_ren : Go.Shelf.Ren := ⟨fun | 144 => 27 | 143 => 56 | 219 => 90 | 217 => 78 | 225 => 113 | 224 => 114 | 267 => 115 | 266 => 105 | 314 => 130 | n => n, fun | 9 => 9 | 4 => 4 | 3 => 3 | 5 => 5 | 46 => 91 | 146 => 178 | 51 => 124 | n => n, fun | 1 => 1 | n => n⟩
theorem Tryd.lays144 : Go.Proofs.Lays.n144 Tryd.prog Tryd.lays144_ren := {
  mixed := by kernel_rfl
  f143 := Tryd.func56.trans (congrArg some (by kernel_rfl))
  f144 := Tryd.func27.trans (congrArg some (by kernel_rfl))
  f217 := Tryd.func78.trans (congrArg some (by kernel_rfl))
  f219 := Tryd.func90.trans (congrArg some (by kernel_rfl))
  f224 := Tryd.func114.trans (congrArg some (by kernel_rfl))
  f225 := Tryd.func113.trans (congrArg some (by kernel_rfl))
  f266 := Tryd.func105.trans (congrArg some (by kernel_rfl))
  f267 := Tryd.func115.trans (congrArg some (by kernel_rfl))
  f314 := Tryd.func130.trans (congrArg some (by kernel_rfl))
  t3 := Tryd.underlying3
  a3 := Tryd.isAgg3
  z3 := Tryd.sizeOf3
  v3 := Tryd.zeroValue3
  t4 := Tryd.underlying4
  a4 := Tryd.isAgg4
  z4 := Tryd.sizeOf4
  v4 := Tryd.zeroValue4
  t5 := Tryd.underlying5
  a5 := Tryd.isAgg5
  z5 := Tryd.sizeOf5
  v5 := Tryd.zeroValue5
  t9 := Tryd.underlying9
  a9 := Tryd.isAgg9
  z9 := Tryd.sizeOf9
  v9 := Tryd.zeroValue9
  t46 := Tryd.underlying91
  a46 := Tryd.isAgg91
  z46 := Tryd.sizeOf91
  v46 := Tryd.zeroValue91
  t51 := Tryd.underlying124
  a51 := Tryd.isAgg124
  z51 := Tryd.sizeOf124
  v51 := Tryd.zeroValue124
  t146 := Tryd.underlying178
  a146 := Tryd.isAgg178
  z146 := Tryd.sizeOf178
  v146 := Tryd.zeroValue178
  g1 := by kernel_rfl }
open Go.RowKit Go.Lib in
/-- strings.Contains: "Contains reports whether substr is within s.": IT RETURNS 'Lib.contains s substr'; the world is as it was. (LAID: no walk: one application.) -/
theorem Tryd.strings_Contains (s sub : ByteArray) (m : Int) (w : World) (hs : s.size < 4294967281) (hm : w.cell? ⟨1, 0, none⟩ = some (.int .i64 m)) :
    Calls Tryd.prog 27 #[.string s, .string sub] w fun e w' => e = .returned (.bool (Lib.contains s.data.toList sub.data.toList)) ∧ w' = w := Any.strings_Contains Tryd.lays144 s sub m w hs hm
def Tryd.lays100_ren : Go.Shelf.Ren := ⟨fun | 100 => 81 | 207 => 106 | n => n, fun | 9 => 9 | 4 => 4 | 3 => 3 | n => n, fun | n => n⟩
theorem Tryd.lays100 : Go.Proofs.Lays.n100 Tryd.prog Tryd.lays100_ren := {
  mixed := by kernel_rfl
  f100 := Tryd.func81.trans (congrArg some (by kernel_rfl))
  f207 := Tryd.func106.trans (congrArg some (by kernel_rfl))
  t3 := Tryd.underlying3
  a3 := Tryd.isAgg3
  z3 := Tryd.sizeOf3
  v3 := Tryd.zeroValue3
  t4 := Tryd.underlying4
  a4 := Tryd.isAgg4
  z4 := Tryd.sizeOf4
  v4 := Tryd.zeroValue4
  t9 := Tryd.underlying9
  a9 := Tryd.isAgg9
  z9 := Tryd.sizeOf9
  v9 := Tryd.zeroValue9 }
open Go.RowKit Go.Lib in
/-- strings.HasSuffix: "HasSuffix reports whether the string s ends with suffix.": IT RETURNS 'Lib.hasSuffix s suffix'; the world is as it was. ('hs': no Go string is longer: a caller has it of every string that it was handed.) (LAID: no walk: one application.) -/
theorem Tryd.strings_HasSuffix (s p : ByteArray) (w : World) (hs : s.size ≤ 9223372036854775807) :
    Calls Tryd.prog 81 #[.string s, .string p] w fun e w' => e = .returned (.bool (Lib.hasSuffix s.data.toList p.data.toList)) ∧ w' = w := Any.strings_HasSuffix Tryd.lays100 s p w hs
end Go.Proofs
namespace Go.Proofs
open Go.Shelf Go.RowKit Go.Sort Go.Lib
set_option maxRecDepth 100000 in
theorem Tryd.internal_FormatUint_10 (u : Nat) (hu64 : u < 18446744073709551616) (w : World)
    (htab : Lib.TabIs Tryd.prog w "internal/strconv.uint64pow10" .u64 Lib.pow10Tab) :
    Calls Tryd.prog 98 #[.int .u64 u, .int .i64 10] w fun e w' => e = .returned (.string ⟨(Lib.decDigits u).toArray⟩) ∧ ∃ k os, w' = grow (w.drewN k) os := by
  by_cases hs : u < 100
  · have h100 : (u : Int) < 100 := by omega
    have hw : IntKind.i64.wrap (u : Int) = (u : Int) := by rw [IntKind.wrap_i64]; omega
    go_enter Tryd.func98, Tryd.ntmps98
    go_wp2_with (go_at_call 58; refine (Tryd.internal_strconv_small u hs _).mono ?_; rintro e w' ⟨rfl, rfl⟩)
    go_ret
    refine ⟨rfl, 0, #[], by simp [World.drewN_zero]⟩
  · have h100 : ¬ (u : Int) < 100 := by omega
    have hu1 : 1 ≤ u := by omega
    have hnd20 : Lib.nDigits u ≤ 20 := by have := Lib.numDigits_eq u hu1 hu64; split at this <;> omega
    have hb3 : Lib.nDigits u ≤ 24 := by omega
    have hal : Tryd.prog.arrayLen 115 = 24 := by simp [Program.arrayLen, Tryd.underlying115]
    have hsl1 : ∀ W, (Instr.sliceAt 115 (.pointer (some ⟨w.heap.size, 0, none⟩)) none (some (.int .i64 (Lib.nDigits u : Int))) none).run Tryd.prog W = .ok (.slice (some ⟨w.heap.size, 0, none⟩) (Lib.nDigits u) 24) W := fun W => by
      rw [run_sliceAt_array_h W 115 ⟨w.heap.size, 0, none⟩ (by simp [Program.arrayLen, Program.elem, Tryd.underlying115]) .i64 (Lib.nDigits u : Int) (by omega) (by rw [hal]; omega)]
      go_simp
    have hH0 := Lib.holds_zero0 w 115 (Lib.nDigits u) (by omega)
    have hfmt := Tryd.internal_strconv_formatBase10 w.heap.size 0 24 u (Array.replicate (Lib.nDigits u) 0) (w.alloc (.cells Lib.zeros24 115)) hH0 (by rw [Array.size_replicate]; exact Lib.lt_pow_nDigits u) hu64 (by rw [Array.size_replicate]; omega)
    rw [Array.size_replicate] at hfmt
    have HH0 := Lib.hid hH0
    clear hH0 hal
    go_enter Tryd.func98, Tryd.ntmps98
    go_wp2_with (go_at_call 59; refine (Tryd.internal_strconv_numDigits u hu1 hu64 _ (Lib.tabIs_alloc htab _)).mono ?_; rintro e w' ⟨rfl, rfl⟩)
    go_at_call 60
    refine hfmt.mono ?_
    rintro e w' ⟨rfl, k, v', dk, rfl, hF⟩
    have hcv : (convert 57 9 (.slice (some ⟨w.heap.size, 0, none⟩) (Lib.nDigits u) 24)).run Tryd.prog ((putRow (fun (b : UInt8) => Value.int .u8 (b.toNat : Int)) (w.alloc (.cells Lib.zeros24 115)) w.heap.size 0 dk).drewN k) = .ok (.string ⟨(Lib.decDigits u).toArray⟩) ((putRow (fun (b : UInt8) => Value.int .u8 (b.toNat : Int)) (w.alloc (.cells Lib.zeros24 115)) w.heap.size 0 dk).drewN k) := by
      have h := run_convert_bytes_back (P := Tryd.prog) ((putRow (fun (b : UInt8) => Value.int .u8 (b.toNat : Int)) (w.alloc (.cells Lib.zeros24 115)) w.heap.size 0 dk).drewN k) 57 9 5 ⟨w.heap.size, 0, none⟩ 24 (Lib.decDigits u) Tryd.underlying57 Tryd.underlying5 Tryd.underlying9 (fun j hj => by
        rw [Lib.row_is_numeral hF j hj, Lib.add_plain, World.cell?_drewN]
        exact cell?_putRow (fun (b : UInt8) => Value.int .u8 (b.toNat : Int)) _ w.heap.size 0 _ dk HH0.out (by rw [hF.size, Array.size_replicate]) j (by rw [hF.size]; rw [Lib.decDigits_length] at hj; exact hj))
      rw [Lib.decDigits_length] at h
      exact h
    go_wp2
    go_ret
    refine ⟨rfl, k, ?_⟩
    rw [alloc_eq_grow]
    obtain ⟨os', _, e⟩ := putRow_grow_new (fun (b : UInt8) => Value.int .u8 (b.toNat : Int)) w #[.cells Lib.zeros24 115] w.heap.size 0 dk (Nat.le_refl _)
    exact ⟨os', by rw [e]; rfl⟩
/-- FormatUint. -/
theorem Tryd.strconv_FormatUint_10 (u : Nat) (hu64 : u < 18446744073709551616) (w : World)
    (htab : Lib.TabIs Tryd.prog w "internal/strconv.uint64pow10" .u64 Lib.pow10Tab) :
    Calls Tryd.prog 69 #[.int .u64 u, .int .i64 10] w fun e w' => e = .returned (.string ⟨(Lib.decDigits u).toArray⟩) ∧ ∃ k os, w' = grow (w.drewN k) os := by
  go_enter Tryd.func69, Tryd.ntmps69
  go_wp2_with (go_at_call 98; refine (Tryd.internal_FormatUint_10 u hu64 _ htab).mono ?_; rintro e w' ⟨rfl, k, os, rfl⟩)
  go_ret
  exact ⟨rfl, k, os, rfl⟩
end Go.Proofs
namespace Go.Dn.Dec
open Go.Proofs Go.RowKit Go.Sort
set_option maxRecDepth 100000
theorem mixed : Tryd.prog.follows .mixedOrders = true := by kernel_rfl
theorem names : (Tryd.prog.funcs.toList.all fun f => f.name != "runtime.NumGoroutine") = true := by kernel_rfl
theorem hname (k : Nat) (fn : Func) (h : Tryd.prog.funcs[k]? = some fn) : fn.name ≠ "runtime.NumGoroutine" := by
  have h1 : fn ∈ Tryd.prog.funcs.toList := by rw [← Array.getElem?_toList] at h; exact List.mem_of_getElem? h
  have := List.all_eq_true.1 names fn h1
  simpa using this
theorem vs_one {G : Sg} {x : V} {vs : Array Value} (hr : RVs G [x] vs.toList) : ∃ v, vs = #[v] ∧ RV G x v := by
  obtain ⟨v, hv, hx⟩ := RVs.get hr (i := 0) rfl
  have hl := RVs.length hr
  refine ⟨v, ?_, hx⟩
  apply Array.ext'
  match hvs : vs.toList, hl, hv with
  | [y], _, hv => simp at hv; subst hv; rfl
theorem vs_two {G : Sg} {x y : V} {vs : Array Value} (hr : RVs G [x, y] vs.toList) : ∃ v u, vs = #[v, u] ∧ RV G x v ∧ RV G y u := by
  obtain ⟨v, hv, hx⟩ := RVs.get hr (i := 0) rfl
  obtain ⟨u, hu, hy⟩ := RVs.get hr (i := 1) rfl
  have hl := RVs.length hr
  refine ⟨v, u, ?_, hx, hy⟩
  apply Array.ext'
  match hvs : vs.toList, hl, hv, hu with
  | [a, b], _, hv, hu => simp at hv hu; subst hv; subst hu; rfl
theorem below_grow (w : World) (k : Nat) (os : Array Obj) : Below w.heap.size w (grow (w.drewN k) os) :=
  ⟨rfl, rfl, rfl, by simp [grow, World.drewN], fun i hi => heap_grow_old _ _ (by simpa using hi)⟩
/-- A call that answers data and leaves all that stands alone. -/
theorem good_data {k : Nat} {args : List V} {S : List Ob} {x : D} {v : Value} {fn : Func} (hf : Tryd.prog.funcs[k]? = some fn) (hb : fn.body.isSome = true) (hx : ∀ F, RD F x v)
    (h : ∀ w G vs, Inv w G S → RVs G args vs.toList → Calls Tryd.prog k vs w fun e w' => e = .returned v ∧ (w' = w ∨ ∃ n os, w' = grow (w.drewN n) os)) : GoodCall Tryd.prog k args S (.d x, S) := by
  refine GoodCall.of_below fun w G vs hI hr => ?_
  refine Answers.of_calls hf hb (hname k fn hf) ((h w G vs hI hr).mono ?_)
  rintro e w' ⟨rfl, hw⟩
  refine ⟨v, rfl, ?_, by simp only [RV]; exact hx _⟩
  rcases hw with rfl | ⟨n, os, rfl⟩
  · exact Below.refl _ _
  · exact below_grow _ _ _
theorem tab_is {w : World} {G : Sg} {S : List Ob} (hI : Inv w G S) : Lib.TabIs Tryd.prog w "internal/strconv.uint64pow10" .u64 Lib.pow10Tab := by
  obtain ⟨⟨arr, x, y, e, rfl⟩, _⟩ := hI.tb 0 _ rfl
  have hg : Tryd.prog.globalNamed "internal/strconv.uint64pow10" = some 0 := by kernel_rfl
  unfold Lib.TabIs World.var?
  rw [hg]
  simp only [Option.bind_some, e]
theorem decDigits_eq (n : Nat) : Lib.decDigits n = decN n := by
  induction n using Nat.strongRecOn with
  | ind n ih =>
    rw [Lib.decDigits, decN_eq]
    split
    · rfl
    · rw [ih _ (by omega)]
theorem itoa_eq (n : Int) : Lib.itoa n = decI n := by
  unfold Lib.itoa decI
  split <;> rw [decDigits_eq]
theorem bitLen_eq (n : Nat) (h : n < 4294967296) : Lib.bitLen n = blen n := by
  by_cases h0 : n = 0
  · subst h0; rfl
  · obtain ⟨a, b, c⟩ := Lib.bitLenAux_bounds 64 n (by omega) h0
    have hb : Lib.bitLen n = Lib.bitLenAux 64 n := rfl
    rw [hb]
    have := blen_eq (n := n) (k := Lib.bitLenAux 64 n - 1) b (by rw [Nat.sub_add_cancel a]; exact c)
    omega
theorem trimRight_good {args : List V} {S : List Ob} {o : Out} (h : trimRightExt args S = some o) : GoodCall Tryd.prog 37 args S o := by
  unfold trimRightExt at h
  split at h
  · rename_i x c
    split at h
    · rename_i hc
      injection h with h; subst h
      refine good_data (v := .string ⟨(Lib.trimRightB x c).toArray⟩) Tryd.func37 (by kernel_rfl) (fun F => by simp only [RD]; rfl) fun w G vs hI hr => ?_
      obtain ⟨v, u, rfl, h1, h2⟩ := vs_two hr
      simp only [RV, RD] at h1 h2
      subst h1; subst h2
      have hs : (⟨x.toArray⟩ : ByteArray).size ≤ 9223372036854775807 := by
        show x.toArray.size ≤ _
        simp; omega
      exact (Tryd.strings_TrimRight_one ⟨x.toArray⟩ c hc.1 w hs).mono fun e w' h => ⟨h.1, .inl h.2⟩
    · cases h
  · cases h
/-- A call that answers a value without blocks, and leaves all that stands alone. -/
theorem good_val {k : Nat} {args : List V} {S : List Ob} {x : V} {v : Value} {fn : Func} (hf : Tryd.prog.funcs[k]? = some fn) (hb : fn.body.isSome = true) (hx : ∀ G, RV G x v)
    (h : ∀ w G vs, Inv w G S → RVs G args vs.toList → Calls Tryd.prog k vs w fun e w' => e = .returned v ∧ Below w.heap.size w w') : GoodCall Tryd.prog k args S (x, S) := by
  refine GoodCall.of_below fun w G vs hI hr => ?_
  refine Answers.of_calls hf hb (hname k fn hf) ((h w G vs hI hr).mono ?_)
  rintro e w' ⟨rfl, hw⟩
  exact ⟨v, rfl, hw, hx _⟩
theorem tabs_in {w : World} {G : Sg} {S : List Ob} (hI : Inv w G S) : TabsIn w := fun b p hp => (hI.tb b p hp).1
theorem max_in {w : World} {G : Sg} {S : List Ob} (hI : Inv w G S) : ∃ m : Int, w.cell? ⟨1, 0, none⟩ = some (.int .i64 m) := by
  obtain ⟨⟨arr, x, y, e, m, rfl⟩, _⟩ := hI.tb 1 _ rfl
  exact ⟨m, by simp [World.cell?, e]⟩
theorem Tryd.strings_TrimLeft_set (s : ByteArray) (w : World) :
    Calls Tryd.prog 108 #[.string s, .string ⟨#[43, 45]⟩] w fun e w' => e = .returned (.string ⟨(Lib.trimLeftS s.data.toList [43, 45]).toArray⟩) ∧ Below w.heap.size w w' :=
  Any.strings_TrimLeft_laid Go.Proofs.Tryd.lays161 (by kernel_rfl) s ⟨#[43, 45]⟩ w (by decide) (ascii_of_all (by decide))
theorem trimLeft_good {args : List V} {S : List Ob} {o : Out} (h : trimLeftExt args S = some o) : GoodCall Tryd.prog 108 args S o := by
  unfold trimLeftExt at h
  split at h
  · rename_i x c
    split at h
    · rename_i hc
      injection h with h; subst h
      refine good_data (v := .string ⟨(Lib.trimLeftB x c).toArray⟩) Tryd.func108 (by kernel_rfl) (fun F => by simp only [RD]; rfl) fun w G vs hI hr => ?_
      obtain ⟨v, u, rfl, h1, h2⟩ := vs_two hr
      simp only [RV, RD] at h1 h2
      subst h1; subst h2
      exact (Tryd.strings_TrimLeft_one ⟨x.toArray⟩ c hc w).mono fun e w' h => ⟨h.1, .inl h.2⟩
    · cases h
  · rename_i x
    split at h
    · rename_i hc
      injection h with h; subst h
      refine good_val (v := .string ⟨(Lib.trimLeftS x [43, 45]).toArray⟩) Tryd.func108 (by kernel_rfl) (fun G => ?_) fun w G vs hI hr => ?_
      · simp only [RV, RD]
        have e : Lib.trimLeftS x [43, 45] = x.dropWhile fun c => c == 43 || c == 45 := by
          unfold Lib.trimLeftS
          congr 1
          funext c
          rw [Bool.eq_iff_iff, List.contains_iff_mem]
          simp
        rw [e]
      · obtain ⟨v, u, rfl, h1, h2⟩ := vs_two hr
        simp only [RV, RD] at h1 h2
        subst h1; subst h2
        exact Dec.Tryd.strings_TrimLeft_set ⟨x.toArray⟩ w
    · cases h
  · cases h
theorem find_index (t : List UInt8) : ∀ x : List UInt8, Lib.index x t = idxV (findSub t x)
  | [] => by
    unfold Lib.index findSub
    cases t <;> rfl
  | c :: r => by
    have ih := find_index t r
    unfold Lib.index findSub
    rw [ih]
    cases h : t.isPrefixOf (c :: r) with
    | true => rfl
    | false =>
      rw [if_neg (show ¬ (false = true) by decide), if_neg (show ¬ (false = true) by decide)]
      cases findSub t r with
      | none => rfl
      | some n =>
        have hn : ((n : Int) == -1) = false := beq_eq_false_iff_ne.2 (by omega)
        show (if ((n : Int) == -1) = true then (-1 : Int) else (n : Int) + 1) = _
        rw [hn, if_neg (by decide)]
        show _ = ((n + 1 : Nat) : Int)
        omega
theorem find_contains (t x : List UInt8) : Lib.contains x t = (findSub t x).isSome := by
  unfold Lib.contains
  rw [find_index]
  cases findSub t x with
  | none => rfl
  | some n => exact decide_eq_true (Int.natCast_nonneg n)
theorem find_byte (c : UInt8) : ∀ x : List UInt8, Lib.indexByte x c = idxV (x.findIdx? fun d => d == c)
  | [] => rfl
  | d :: r => by
    have ih := find_byte c r
    unfold Lib.indexByte
    rw [ih, List.findIdx?_cons]
    cases h : d == c with
    | true => rfl
    | false =>
      rw [if_neg (show ¬ (false = true) by decide), if_neg (show ¬ (false = true) by decide)]
      cases r.findIdx? (fun d => d == c) with
      | none => rfl
      | some n =>
        have hn : ((n : Int) == -1) = false := beq_eq_false_iff_ne.2 (by omega)
        show (if ((n : Int) == -1) = true then (-1 : Int) else (n : Int) + 1) = _
        rw [hn, if_neg (by decide)]
        show _ = ((n + 1 : Nat) : Int)
        omega
theorem size_of (x : List UInt8) (h : x.length ≤ 100000) : (⟨x.toArray⟩ : ByteArray).size < 4294967281 := by
  show x.toArray.size < _
  simp; omega
theorem contains_good {args : List V} {S : List Ob} {o : Out} (h : containsExt args S = some o) : GoodCall Tryd.prog 27 args S o := by
  unfold containsExt at h
  split at h
  · rename_i x t
    split at h
    · rename_i hc
      injection h with h; subst h
      refine good_data (v := .bool (Lib.contains x t)) Tryd.func27 (by kernel_rfl) (fun F => by simp only [RD]; rw [find_contains]) fun w G vs hI hr => ?_
      obtain ⟨v, u, rfl, h1, h2⟩ := vs_two hr
      simp only [RV, RD] at h1 h2
      subst h1; subst h2
      obtain ⟨m, hm⟩ := max_in hI
      exact (Tryd.strings_Contains ⟨x.toArray⟩ ⟨t.toArray⟩ m w (size_of x hc.1) hm).mono fun e w' h => ⟨h.1, .inl h.2⟩
    · cases h
  · cases h
theorem index_good {args : List V} {S : List Ob} {o : Out} (h : indexExt args S = some o) : GoodCall Tryd.prog 56 args S o := by
  unfold indexExt at h
  split at h
  · rename_i x t
    split at h
    · rename_i hc
      injection h with h; subst h
      refine good_data (v := .int .i64 (Lib.index x t)) Tryd.func56 (by kernel_rfl) (fun F => by simp only [RD]; rw [find_index]) fun w G vs hI hr => ?_
      obtain ⟨v, u, rfl, h1, h2⟩ := vs_two hr
      simp only [RV, RD] at h1 h2
      subst h1; subst h2
      obtain ⟨m, hm⟩ := max_in hI
      exact (Tryd.strings_Index ⟨x.toArray⟩ ⟨t.toArray⟩ m w (size_of x hc.1) hm).mono fun e w' h => ⟨h.1, .inl h.2⟩
    · cases h
  · cases h
theorem indexByte_good {args : List V} {S : List Ob} {o : Out} (h : indexByteExt args S = some o) : GoodCall Tryd.prog 40 args S o := by
  unfold indexByteExt at h
  split at h
  · rename_i x c
    split at h
    · rename_i hc
      injection h with h; subst h
      refine good_data (v := .int .i64 (Lib.indexByte x (UInt8.ofNat c.toNat))) Tryd.func40 (by kernel_rfl) (fun F => by simp only [RD]; rw [find_byte]) fun w G vs hI hr => ?_
      obtain ⟨v, u, rfl, h1, h2⟩ := vs_two hr
      simp only [RV, RD] at h1 h2
      subst h1; subst h2
      exact (Tryd.strings_IndexByte ⟨x.toArray⟩ c w).mono fun e w' h => ⟨h.1, .inl h.2⟩
    · cases h
  · cases h
theorem suffix_good {args : List V} {S : List Ob} {o : Out} (h : suffixExt args S = some o) : GoodCall Tryd.prog 81 args S o := by
  unfold suffixExt at h
  split at h
  · rename_i x t
    split at h
    · rename_i hc
      injection h with h; subst h
      refine good_data (v := .bool (Lib.hasSuffix x t)) Tryd.func81 (by kernel_rfl) (fun F => by simp only [RD]; rfl) fun w G vs hI hr => ?_
      obtain ⟨v, u, rfl, h1, h2⟩ := vs_two hr
      simp only [RV, RD] at h1 h2
      subst h1; subst h2
      have := size_of x hc.1
      exact (Tryd.strings_HasSuffix ⟨x.toArray⟩ ⟨t.toArray⟩ w (by omega)).mono fun e w' h => ⟨h.1, .inl h.2⟩
    · cases h
  · cases h
theorem extU : ExtOk Tryd.prog polU := by
  intro k g hg; simp [polU] at hg
theorem inner_pu (s : List UInt8) (hne : s ≠ []) (hl : s.length ≤ 16) (hd : ∀ c ∈ s, isHex c = true) (w : World) (hT : TabsIn w) :
    Calls Tryd.prog 122 #[.string ⟨s.toArray⟩, .int .i64 16, .int .i64 64] w fun e w' => e = .returned (.tuple #[.int .u64 ((hexV s : Nat) : Int), .nilIface]) ∧ Below w.heap.size w w' := by
  have hg := run_good mixed extU hname (rk_run (pu_s s hne hl hd)) w (startG w) #[.string ⟨s.toArray⟩, .int .i64 16, .int .i64 64] (startInv w hT)
    (by simp only [RVs]; exact ⟨_, _, rfl, rfl, _, _, rfl, rfl, _, _, rfl, rfl, rfl⟩) (fun b q => by simp [startG])
  refine Calls.mono (hg.calls Tryd.func122 (by kernel_rfl) (hname 122 _ Tryd.func122)) ?_
  rintro e w' ⟨y, rfl, G', h1, h2, h3⟩
  refine ⟨?_, h3.os, h3.tape, h3.output, h3.size, fun b hb => (h3.keep b hb (.inl (by simp [startG]))).2.1⟩
  simp only [RV, RVs, RD] at h1
  obtain ⟨vs, rfl, v1, r1, e1, rfl, v2, r2, e2, rfl, rfl⟩ := h1
  subst e2
  refine congrArg (fun x => Ending.returned (Value.tuple x)) (Array.ext' e1)
theorem Tryd.strconv_ParseUint_16 (s : List UInt8) (hne : s ≠ []) (hl : s.length ≤ 16) (hd : ∀ c ∈ s, isHex c = true) (w : World) (hT : TabsIn w) :
    Calls Tryd.prog 107 #[.string ⟨s.toArray⟩, .int .i64 16, .int .i64 64] w fun e w' => e = .returned (.tuple #[.int .u64 ((hexV s : Nat) : Int), .nilIface]) ∧ Below w.heap.size w w' := by
  go_enter Go.Proofs.Tryd.func107, Go.Proofs.Tryd.ntmps107
  go_wp2_with (go_at_call 122; refine (inner_pu s hne hl hd _ hT).mono ?_; rintro e w' ⟨rfl, hw⟩)
  go_ret2
  exact ⟨rfl, hw⟩
theorem parseHex_good {args : List V} {S : List Ob} {o : Out} (h : parseHexExt args S = some o) : GoodCall Tryd.prog 107 args S o := by
  unfold parseHexExt at h
  split at h
  · rename_i x b z
    split at h
    · rename_i hc
      injection h with h; subst h
      obtain ⟨rfl, rfl, hne, hl, hd⟩ := hc
      refine good_val (v := .tuple #[.int .u64 ((hexV x : Nat) : Int), .nilIface]) Tryd.func107 (by kernel_rfl) (fun G => ?_) fun w G vs hI hr => ?_
      · simp only [RV, RVs, RD]
        exact ⟨_, rfl, _, _, rfl, rfl, _, _, rfl, rfl, rfl⟩
      · obtain ⟨v, hv, h1⟩ := RVs.get hr (i := 0) rfl
        obtain ⟨u, hu, h2⟩ := RVs.get hr (i := 1) rfl
        obtain ⟨y, hy, h3⟩ := RVs.get hr (i := 2) rfl
        have hlen := RVs.length hr
        simp only [RV, RD] at h1 h2 h3
        subst h1; subst h2; subst h3
        have e : vs = #[.string ⟨x.toArray⟩, .int .i64 16, .int .i64 64] := by
          apply Array.ext'
          match hvs : vs.toList, hlen, hv, hu, hy with
          | [a, b, c], _, hv, hu, hy => simp at hv hu hy; subst hv; subst hu; subst hy; rfl
        rw [e]
        exact Dec.Tryd.strconv_ParseUint_16 x hne hl (fun c h => List.all_eq_true.1 hd c h) w (tabs_in hI)
    · cases h
  · cases h
theorem itoa_good {args : List V} {S : List Ob} {o : Out} (h : itoaExt args S = some o) : GoodCall Tryd.prog 38 args S o := by
  unfold itoaExt at h
  split at h
  · rename_i n
    split at h
    · rename_i hc
      injection h with h; subst h
      refine good_data (v := .string ⟨(Lib.itoa n).toArray⟩) Tryd.func38 (by kernel_rfl) (fun F => by simp only [RD]; rw [itoa_eq]) fun w G vs hI hr => ?_
      obtain ⟨v, rfl, h1⟩ := vs_one hr
      simp only [RV, RD] at h1
      subst h1
      exact (Tryd.strconv_Itoa n (by omega) (by omega) w (tab_is hI)).mono fun e w' h => ⟨h.1, .inr h.2⟩
    · cases h
  · cases h
theorem fmtUint_good {args : List V} {S : List Ob} {o : Out} (h : fmtUintExt args S = some o) : GoodCall Tryd.prog 69 args S o := by
  unfold fmtUintExt at h
  split at h
  · rename_i n b
    split at h
    · rename_i hc
      injection h with h; subst h
      obtain ⟨rfl, hc1, hc2⟩ := hc
      refine good_data (v := .string ⟨(Lib.decDigits n.toNat).toArray⟩) Tryd.func69 (by kernel_rfl) (fun F => by simp only [RD]; rw [decDigits_eq]) fun w G vs hI hr => ?_
      obtain ⟨v, u, rfl, h1, h2⟩ := vs_two hr
      simp only [RV, RD] at h1 h2
      subst h1; subst h2
      have e : n = ((n.toNat : Nat) : Int) := by omega
      have := Tryd.strconv_FormatUint_10 n.toNat (by omega) w (tab_is hI)
      rw [← e] at this
      exact this.mono fun e w' h => ⟨h.1, .inr h.2⟩
    · cases h
  · cases h
theorem len32_good {args : List V} {S : List Ob} {o : Out} (h : len32Ext args S = some o) : GoodCall Tryd.prog 65 args S o := by
  unfold len32Ext at h
  split at h
  · rename_i n
    split at h
    · rename_i hc
      injection h with h; subst h
      refine good_data (v := .int .i64 (Lib.bitLen n.toNat)) Tryd.func65 (by kernel_rfl) (fun F => by simp only [RD]; rw [bitLen_eq _ (by omega)]) fun w G vs hI hr => ?_
      obtain ⟨v, rfl, h1⟩ := vs_one hr
      simp only [RV, RD] at h1
      subst h1
      exact (Tryd.bits_Len32 n w (by omega) (by omega)).mono fun e w' h => ⟨h.1, .inl h.2⟩
    · cases h
  · cases h
/-! ### big.Sub -/
theorem unInts_of {xs : List D} {a : List Int} (h : unInts .u32 xs = some a) : xs = ints .u32 a := by
  induction xs generalizing a with
  | nil => simp [unInts] at h; subst h; rfl
  | cons x xs ih =>
    cases x <;> simp only [unInts] at h <;> try (cases h)
    rename_i j n
    split at h
    · rename_i e; subst e
      obtain ⟨l, hl, rfl⟩ := Option.map_eq_some_iff.1 h
      rw [ih hl]; rfl
    · cases h
theorem unCells_of {xs : List V} {a : List Int} (h : unCellsU xs = some a) : xs = cellsOf a := by
  induction xs generalizing a with
  | nil => simp [unCellsU] at h; subst h; rfl
  | cons x xs ih =>
    unfold unCellsU at h
    split at h
    · rename_i e; cases e
    · rename_i e; injection e with e1 e2; subst e1; subst e2
      obtain ⟨l, hl, rfl⟩ := Option.map_eq_some_iff.1 h
      rw [ih hl]; rfl
    · cases h
theorem okU_u {a : List Int} (h : okU a = true) : U32 a ∧ a.length ≤ 100000 := by
  simp only [okU, Bool.and_eq_true, decide_eq_true_eq, List.all_eq_true] at h
  exact ⟨fun z hz => by have := h.1 z hz; exact this, h.2⟩
theorem extA : ExtOk Tryd.prog polA := by
  intro k g hg; simp [polA] at hg
theorem extC : ExtOk Tryd.prog polC := by
  intro k g hg; simp [polC] at hg
theorem cutS_good {args : List V} {S : List Ob} {o : Out} (h : cutExtS args S = some o) : GoodCall Tryd.prog 64 args S o := by
  unfold cutExtS at h
  split at h
  · rename_i b xs
    split at h
    · rename_i a ha
      split at h
      · rename_i hok
        injection h with h; subst h
        obtain ⟨hu, hl⟩ := okU_u hok
        rw [unInts_of ha]
        have := cutC_run b a hu (by omega)
        exact run_good mixed extC hname (rk_run (by rw [this]; simp [cellsU, cellsOf, ints]))
      · cases h
    · cases h
  · rename_i n cs
    split at h
    · rename_i a ha
      split at h
      · rename_i hok
        injection h with h; subst h
        obtain ⟨rfl, hok⟩ := hok
        obtain ⟨hu, hl⟩ := okU_u hok
        rw [unCells_of ha]
        exact run_good mixed extA hname (rk_run (cutA_run a hu (by omega)))
      · cases h
    · cases h
  · cases h
theorem cmpS_good {args : List V} {S : List Ob} {o : Out} (h : cmpExtS args S = some o) : GoodCall Tryd.prog 66 args S o := by
  unfold cmpExtS at h
  split at h
  · rename_i n m ds cs
    split at h
    · rename_i a b ha hb
      split at h
      · rename_i hok
        injection h with h; subst h
        obtain ⟨rfl, rfl, hok1, hok2⟩ := hok
        obtain ⟨hu1, hl1⟩ := okU_u hok1
        obtain ⟨hu2, hl2⟩ := okU_u hok2
        rw [unCells_of ha, unCells_of hb]
        exact run_good mixed extA hname (rk_run (cmpA_run a b hu1 hu2 hl1 hl2))
      · cases h
    · cases h
  · cases h
theorem extS_ok : ExtOk Tryd.prog polS := by
  intro k g hg args S o ho
  simp only [polS, extS] at hg
  split at hg
  · injection hg with hg; subst hg; exact cutS_good ho
  · injection hg with hg; subst hg; exact cmpS_good ho
  · cases hg
theorem sub_good {args : List V} {S : List Ob} {o : Out} (h : subExt args S = some o) : GoodCall Tryd.prog 118 args S o := by
  unfold subExt at h
  split at h
  · rename_i b xs c ys
    split at h
    · rename_i a e ha he
      split at h
      · rename_i hok
        injection h with h; subst h
        obtain ⟨h1, h2, h3, h4⟩ := hok
        have u1 : U32 a := fun z hz => by have := List.all_eq_true.1 h1 z hz; simpa using this
        have u2 : U32 e := fun z hz => by have := List.all_eq_true.1 h2 z hz; simpa using this
        rw [unInts_of ha, unInts_of he]
        exact run_good mixed extS_ok hname (rk_run (sub_run b c a e u1 u2 h3 h4))
      · cases h
    · cases h
  · cases h
theorem extOk : ExtOk Tryd.prog pol := by
  intro k g hg args S o ho
  simp only [pol, ext] at hg
  split at hg
  · injection hg with hg; subst hg; exact trimRight_good ho
  · injection hg with hg; subst hg; exact trimLeft_good ho
  · injection hg with hg; subst hg; exact itoa_good ho
  · injection hg with hg; subst hg; exact fmtUint_good ho
  · injection hg with hg; subst hg; exact len32_good ho
  · injection hg with hg; subst hg; exact sub_good ho
  · injection hg with hg; subst hg; exact contains_good ho
  · injection hg with hg; subst hg; exact index_good ho
  · injection hg with hg; subst hg; exact indexByte_good ho
  · injection hg with hg; subst hg; exact suffix_good ho
  · injection hg with hg; subst hg; exact parseHex_good ho
  · cases hg
end Go.Dn.Dec
namespace Go.Dn.Dec
open Go.Proofs Go.Proofs.YtbjllhjbhdjfjaaDoor Go.RowKit
set_option maxRecDepth 100000
def laid4 : List (String × DataW Unit) := [("math/bits.deBruijn32tab", Rows.laid_math_bits_deBruijn32tab), ("math/bits.deBruijn64tab", Rows.laid_math_bits_deBruijn64tab), ("internal/strconv.uint64pow10", Rows.laid_internal_strconv_uint64pow10), ("unicode/utf8.acceptRanges", Rows.laid_unicode_utf8_acceptRanges)]
def laid5 : List (String × DataW Unit) := [("math/bits.deBruijn32tab", Rows.laid_math_bits_deBruijn32tab), ("math/bits.deBruijn64tab", Rows.laid_math_bits_deBruijn64tab), ("internal/strconv.uint64pow10", Rows.laid_internal_strconv_uint64pow10), ("unicode/utf8.acceptRanges", Rows.laid_unicode_utf8_acceptRanges), ("unicode/utf8.first", Rows.laid_unicode_utf8_first)]
def laid7 : List (String × DataW Unit) := [("math/bits.deBruijn32tab", Rows.laid_math_bits_deBruijn32tab), ("math/bits.deBruijn64tab", Rows.laid_math_bits_deBruijn64tab), ("internal/strconv.uint64pow10", Rows.laid_internal_strconv_uint64pow10), ("unicode/utf8.acceptRanges", Rows.laid_unicode_utf8_acceptRanges), ("strconv.ErrRange", Rows.laid_strconv_ErrRange), ("strconv.ErrSyntax", Rows.laid_strconv_ErrSyntax), ("unicode/utf8.first", Rows.laid_unicode_utf8_first)]
theorem pow10_eq : (Rows.laid_internal_strconv_uint64pow10 : DataW Unit) = Lib.tabData .u64 Lib.pow10Tab := by kernel_rfl
theorem max_of {W : World} (h : W.ShapedOpen Tryd.prog) : ∃ m, W.cell? ⟨1, 0, none⟩ = some (.int .i64 m) :=
  cell_of_shapedOpen_int (g := 1) (t := 3) (zero := #[.int .i64 0]) h (by decide) (by kernel_rfl) rfl (by kernel_rfl) (by kernel_rfl) Tryd.underlying3
theorem tabs_tail {W : World} {r : List (String × DataW Unit)} (hs : W.ShapedOpen Tryd.prog) (h3 : laidMet Tryd.prog (("internal/strconv.uint64pow10", Rows.laid_internal_strconv_uint64pow10) :: r) W) : TabsIn W := by
  rw [pow10_eq] at h3
  have ht : Lib.TabIs Tryd.prog W "internal/strconv.uint64pow10" .u64 Lib.pow10Tab :=
    Lib.tabIs_of_head (g := 0) (t := 147) (e := 23) (n := 20) (by kernel_rfl) (by kernel_rfl) Tryd.underlying147 Tryd.underlying23 (by kernel_rfl) (by kernel_rfl) h3
  intro b p hb
  unfold theTab at hb
  split at hb
  · rename_i e; subst e
    injection hb with hb; subst hb
    have hg : Tryd.prog.globalNamed "internal/strconv.uint64pow10" = some 0 := by kernel_rfl
    unfold Lib.TabIs World.var? at ht
    rw [hg] at ht
    simp only [Option.bind_some] at ht
    split at ht
    · rename_i cs x y hc
      injection ht with ht; subst ht
      exact ⟨_, x, y, hc, rfl⟩
    · cases ht
  · split at hb
    · rename_i e; subst e
      injection hb with hb; subst hb
      obtain ⟨cs, hh, hsz, _⟩ := hs.1 1 #[.int .i64 0] 3 (by decide) (by kernel_rfl)
      obtain ⟨m, hm⟩ := max_of hs
      have hsz1 : cs.size = 1 := hsz
      have h1 : 0 < cs.size := by omega
      have hcell : W.cell? ⟨1, 0, none⟩ = some cs[0] := by simp [World.cell?, hh, h1]
      rw [hcell] at hm
      refine ⟨cs, 3, _, hh, m, ?_⟩
      apply Array.ext
      · exact hsz1
      · intro i hi1 hi2
        have : i = 0 := by omega
        subst this
        exact Option.some.inj hm
    · cases hb
/-- The wrap that keeps what is laid and the world's shape. -/
theorem returns_laid_shaped {H : Type} {enc : TypeId × Value → H} {C : Checked} {os : Os} {f : FuncId} {fn : Func} {s : ChangeSpec} {conds : List PathCond} {apart fresh handsOn again : Bool} {X : World → Array Value → Prop}
    (hX : ∀ (w w' : World) (args : Array Value), w.heap = w'.heap → X w args → X w' args)
    (own : ownKnob C.prog.godebug = none) (started : os.Started) (noInit : C.prog.inits.idxOf? f = none) (hfn : C.prog.funcs[f]? = some fn)
    (witness : ∃ (w : World) (tape : Tape) (i : Input), w.os = os ∧ (w.forCall tape i).Shaped C.prog ∧ i.vars = [] ∧ Input.okWide C.prog (w.forCall tape i) .any w.heap.size f i ∧
      ((s.pre enc C.prog fn conds apart (w.forCall tape i).memory i.args ∧ X (w.forCall tape i).memory i.args) ∧ sizedMet enc C.prog fn (OpenSpec.ofChange s) apart (w.forCall tape i).memory i.args) ∧ Assume.holds {} C.prog (lone (Frame.enter C.prog f i.args .normal) [] (w.forCall tape i)))
    (walk : ∀ (W : World) (base : Nat) (args : Array Value) (ds gs : List (DataW H)) (before : List MemPlace),
      (∀ (j : Nat) t v, fn.params[j]? = some t → args[j]? = some v → Value.okWide C.prog W .any base t v) →
      DataW.Whole enc C.prog fn.params.toList s.vars apart W args.toList ds gs before → X W args → W.ShapedOpen C.prog →
      Calls C.prog f args W fun e W' => ∃ v, e = .returned v ∧ s.post enc C.prog fn apart fresh handsOn again W args v W') :
    ReturnsInHanded {} C os f .any (fun w args => (s.pre enc C.prog fn conds apart w args ∧ X w args) ∧ sizedMet enc C.prog fn (OpenSpec.ofChange s) apart w args) (s.post enc C.prog fn apart fresh handsOn again) := by
  refine returnsInHanded_of_calls own started noInit witness fun w tape i _ hsh _ hok hpre _ => ?_
  obtain ⟨⟨⟨ds, gs, before, hw, _⟩, hx⟩, _⟩ := hpre
  obtain ⟨_, _, _, fn', hfn', _, _, _, _, hval⟩ := hok
  rw [hfn] at hfn'
  cases hfn'
  refine (walk (w.forCall tape i) w.heap.size i.args ds gs before hval (DataW.Whole.of_heap (w' := w.forCall tape i) (by rfl) hw) (hX _ (w.forCall tape i) _ (by rfl) hx) hsh).mono fun e W' h => ?_
  obtain ⟨v, rfl, hp⟩ := h
  exact ChangeSpec.post_blind hp
theorem tabs_of5 {W : World} (hs : W.ShapedOpen Tryd.prog) (h : laidMetH Tryd.prog laid5 W) : TabsIn W := by
  rw [MakeChecks.laidMetH_plain _ _ _ (by kernel_rfl)] at h
  exact tabs_tail hs h.tail.tail
theorem tabs_of7 {W : World} (hs : W.ShapedOpen Tryd.prog) (h : laidMetH Tryd.prog laid7 W) : TabsIn W := by
  rw [MakeChecks.laidMetH_plain _ _ _ (by kernel_rfl)] at h
  exact tabs_tail hs h.tail.tail
end Go.Dn.Dec
