/- big.Sub by its own policies. Printed by a program of mine. -/
import Derived.Test.YtdilnnjabjpocaaDoorDe1
import Derived.Test.YtdilnnjabjpocaaDoorDn4
import Derived.KernelRfl
import Derived.Shelf.Strings.Trim
import Derived.Shelf.Small.Bits
import Derived.Shelf.Strconv.Itoa0
import Derived.Shelf.Strconv.Itoa1
import Derived.Shelf.LaysM
import Derived.Shelf.Strconv.Itoa2
import Derived.Shelf.Strconv.Itoa3
import Derived.Test.YtdilnnjabjpocaaDoorProg
import Derived.WalkKit
import Derived.WalkSpells
import Derived.WalkLawsBesides
import Derived.Lib.AppendIntMem
import Derived.Test.YtdilnnjabjpocaaDoorRows
import Derived.Lib.LaidTab
import Derived.Stop.LaidErr
import Derived.ProofKit
import Derived.OpenShut
import Derived.LaidMore
import Derived.Lay
namespace Go.Dn.Dec
open Go.Proofs
theorem a51 (n : Nat) (cs : List V) :
    rk Tryd.prog polA (Task.call 51 [V.m 0 0 n] [Ob.cells cs []]) = interp (rk Tryd.prog polA) (
Tr.call (Task.at_ 51 1 [false, false, true, true] (sv 22 [(0, V.m 0 0 n), (3, V.d (D.i IntKind.i64 (↑n : Int)))]) [] [Ob.cells cs []]) Tr.ret) :=
  rk_of (by kernel_rfl)
theorem a51p (n : Nat) (cs : List V) (ds : List V) :
    rk Tryd.prog polA (Task.call 51 [V.m 1 0 n] [Ob.cells ds [], Ob.cells cs []]) = interp (rk Tryd.prog polA) (
Tr.call (Task.at_ 51 2 [false, false, true, true] (sv 22 [(0, V.m 1 0 n), (3, V.d (D.i IntKind.i64 (↑n : Int)))]) [] [Ob.cells ds [], Ob.cells cs []]) Tr.ret) :=
  rk_of (by kernel_rfl)
theorem a62 (n : Nat) (m : Nat) (cs : List V) (ds : List V) :
    rk Tryd.prog polA (Task.call 62 [V.m 0 0 n, V.m 1 0 m] [Ob.cells ds [], Ob.cells cs []]) = interp (rk Tryd.prog polA) (
Tr.call (Task.call 51 [V.m 0 0 n] [Ob.cells cs []]) fun (o_0 : Out) =>
  unCons o_0.snd fun (x_1 : Ob) (l_2 : List Ob) =>
    unCells x_1 fun (l_3 : List V) (l_4 : Fl) =>
      ift (l_3.length == cs.length)
        (ift (l_4 == [])
          (unNil l_2
            (asD o_0.fst fun (d_5 : D) =>
              asL d_5 fun (b_6 : Bool) (l_7 : List D) =>
                Tr.call (Task.call 51 [V.m 1 0 m] [Ob.cells ds [], Ob.cells l_3 []]) fun (o_8 : Out) =>
                  unCons o_8.snd fun (x_9 : Ob) (l_10 : List Ob) =>
                    unCells x_9 fun (l_11 : List V) (l_12 : Fl) =>
                      ift (l_11.length == ds.length)
                        (ift (l_12 == [])
                          (unCons l_10 fun (x_13 : Ob) (l_14 : List Ob) =>
                            unCells x_13 fun (l_15 : List V) (l_16 : Fl) =>
                              ift (l_15.length == l_3.length)
                                (ift (l_16 == [])
                                  (unNil l_14
                                    (asD o_8.fst fun (d_17 : D) =>
                                      asL d_17 fun (b_18 : Bool) (l_19 : List D) =>
                                        brB (decide ((↑l_7.length : Int) < (↑l_19.length : Int))) (Tr.ret (V.d (D.i IntKind.i64 (-1)), [Ob.cells l_11 [], Ob.cells l_15 []]))
                                          (brB (decide ((↑l_7.length : Int) > (↑l_19.length : Int))) (Tr.ret (V.d (D.i IntKind.i64 1), [Ob.cells l_11 [], Ob.cells l_15 []]))
                                            (Tr.call
                                              (Task.at_ 62 2 [false, true, false, true, true, true]
                                                (sv 49 [(0, V.d (D.l b_6 l_7)), (1, V.d (D.l b_18 l_19)), (5, V.d (D.i IntKind.i64 (IntKind.i64.wrap ((↑l_7.length : Int) - 1))))]) []
                                                [Ob.cells l_11 [], Ob.cells l_15 []])
                                              Tr.ret))))))))))) :=
  rk_of (by kernel_rfl)
theorem a51_at19 (m_0 : Nat) (n_1 : Int) (l_2 : List V) :
    rk Tryd.prog polA (Task.at_ 51 1 [false, false, true, true] (sv 22 [(0, V.m 0 0 m_0), (3, V.d (D.i IntKind.i64 n_1))]) [] [Ob.cells l_2 []]) = interp (rk Tryd.prog polA) (
brB (decide (n_1 > 0))
  (ift (decide (0 ≤ IntKind.i64.wrap (n_1 - 1) ∧ IntKind.i64.wrap (n_1 - 1) < (↑m_0 : Int)))
    (ob l_2[0 + (IntKind.i64.wrap (n_1 - 1)).toNat]? fun (v_0 : V) =>
      asD v_0 fun (d_1 : D) =>
        asI IntKind.u32 d_1 fun (n_2 : Int) =>
          Tr.call (Task.at_ 51 1 [true, false, false, false, false, true, true] (sv 22 [(0, V.m 0 0 m_0), (3, V.d (D.i IntKind.i64 n_1)), (15, V.d (D.b (n_2 == 0)))]) [] [Ob.cells l_2 []]) Tr.ret))
  (Tr.call (Task.at_ 51 1 [true, false, false, false, false, true, true] (sv 22 [(0, V.m 0 0 m_0), (3, V.d (D.i IntKind.i64 n_1)), (15, V.d (D.b false))]) [] [Ob.cells l_2 []]) Tr.ret)) :=
  rk_of (by kernel_rfl)
theorem a51_at19_2 (m_0 : Nat) (n_1 : Int) (l_2 : List V) (l_3 : List V) :
    rk Tryd.prog polA (Task.at_ 51 2 [false, false, true, true] (sv 22 [(0, V.m 1 0 m_0), (3, V.d (D.i IntKind.i64 n_1))]) [] [Ob.cells l_2 [], Ob.cells l_3 []]) = interp (rk Tryd.prog polA) (
brB (decide (n_1 > 0))
  (ift (decide (0 ≤ IntKind.i64.wrap (n_1 - 1) ∧ IntKind.i64.wrap (n_1 - 1) < (↑m_0 : Int)))
    (ob l_2[0 + (IntKind.i64.wrap (n_1 - 1)).toNat]? fun (v_0 : V) =>
      asD v_0 fun (d_1 : D) =>
        asI IntKind.u32 d_1 fun (n_2 : Int) =>
          Tr.call
            (Task.at_ 51 2 [true, false, false, false, false, true, true] (sv 22 [(0, V.m 1 0 m_0), (3, V.d (D.i IntKind.i64 n_1)), (15, V.d (D.b (n_2 == 0)))]) [] [Ob.cells l_2 [], Ob.cells l_3 []])
            Tr.ret))
  (Tr.call (Task.at_ 51 2 [true, false, false, false, false, true, true] (sv 22 [(0, V.m 1 0 m_0), (3, V.d (D.i IntKind.i64 n_1)), (15, V.d (D.b false))]) [] [Ob.cells l_2 [], Ob.cells l_3 []])
    Tr.ret)) :=
  rk_of (by kernel_rfl)
theorem a62_at87 (b_0 : Bool) (l_1 : List D) (b_2 : Bool) (l_3 : List D) (n_4 : Int) (l_5 : List V) (l_6 : List V) :
    rk Tryd.prog polA (Task.at_ 62 2 [false, true, false, true, true, true] (sv 49 [(0, V.d (D.l b_0 l_1)), (1, V.d (D.l b_2 l_3)), (5, V.d (D.i IntKind.i64 n_4))]) [] [Ob.cells l_5 [], Ob.cells l_6 []]) = interp (rk Tryd.prog polA) (
brB (decide (n_4 ≥ 0))
  (ob (getI l_1 n_4) fun (d_0 : D) =>
    ift (d_0.width == 1)
      (ob l_1[n_4.toNat]? fun (d_1 : D) =>
        ob d_1.cells[0]? fun (d_2 : D) =>
          asI IntKind.u32 d_2 fun (n_3 : Int) =>
            ob (getI l_3 n_4) fun (d_4 : D) =>
              ift (d_4.width == 1)
                (ob l_3[n_4.toNat]? fun (d_5 : D) =>
                  ob d_5.cells[0]? fun (d_6 : D) =>
                    asI IntKind.u32 d_6 fun (n_7 : Int) =>
                      brB (decide (n_3 < n_7)) (Tr.ret (V.d (D.i IntKind.i64 (-1)), [Ob.cells l_5 [], Ob.cells l_6 []]))
                        (ob (getI l_1 n_4) fun (d_8 : D) =>
                          ift (d_8.width == 1)
                            (ob l_1[n_4.toNat]? fun (d_9 : D) =>
                              ob d_9.cells[0]? fun (d_10 : D) =>
                                asI IntKind.u32 d_10 fun (n_11 : Int) =>
                                  ob (getI l_3 n_4) fun (d_12 : D) =>
                                    ift (d_12.width == 1)
                                      (ob l_3[n_4.toNat]? fun (d_13 : D) =>
                                        ob d_13.cells[0]? fun (d_14 : D) =>
                                          asI IntKind.u32 d_14 fun (n_15 : Int) =>
                                            brB (decide (n_11 > n_15)) (Tr.ret (V.d (D.i IntKind.i64 1), [Ob.cells l_5 [], Ob.cells l_6 []]))
                                              (Tr.call
                                                (Task.at_ 62 2 [false, true, false, true, true, true]
                                                  (sv 49 [(0, V.d (D.l b_0 l_1)), (1, V.d (D.l b_2 l_3)), (5, V.d (D.i IntKind.i64 (IntKind.i64.wrap (n_4 - 1))))]) []
                                                  [Ob.cells l_5 [], Ob.cells l_6 []])
                                                Tr.ret)))))))
  (Tr.ret (V.d (D.i IntKind.i64 0), [Ob.cells l_5 [], Ob.cells l_6 []]))) :=
  rk_of (by kernel_rfl)
theorem a51_at195 (m_0 : Nat) (n_1 : Int) (b_2 : Bool) (l_3 : List V) :
    rk Tryd.prog polA (Task.at_ 51 1 [true, false, false, false, false, true, true] (sv 22 [(0, V.m 0 0 m_0), (3, V.d (D.i IntKind.i64 n_1)), (15, V.d (D.b b_2))]) [] [Ob.cells l_3 []]) = interp (rk Tryd.prog polA) (
brB b_2 (Tr.call (Task.at_ 51 1 [false, false, true, true] (sv 22 [(0, V.m 0 0 m_0), (3, V.d (D.i IntKind.i64 (IntKind.i64.wrap (n_1 - 1))))]) [] [Ob.cells l_3 []]) Tr.ret)
  (ift (decide (0 ≤ n_1 ∧ n_1 ≤ (↑m_0 : Int)))
    (ob (o_tail [Ob.cells l_3 []] 1 (V.m 0 0 (n_1.toNat - 0))) fun (l_0 : List D) =>
      ift (headOk 1 l_0) (ift (decide (0 + l_0.length ≤ 4294967296)) (Tr.ret (V.d (D.l l_0.isEmpty ([] ++ l_0)), [Ob.cells l_3 []])))))) :=
  rk_of (by kernel_rfl)
theorem a51_at195_1 (m_0 : Nat) (n_1 : Int) (b_2 : Bool) (l_3 : List V) (l_4 : List V) :
    rk Tryd.prog polA (Task.at_ 51 2 [true, false, false, false, false, true, true] (sv 22 [(0, V.m 1 0 m_0), (3, V.d (D.i IntKind.i64 n_1)), (15, V.d (D.b b_2))]) [] [Ob.cells l_3 [], Ob.cells l_4 []]) = interp (rk Tryd.prog polA) (
brB b_2 (Tr.call (Task.at_ 51 2 [false, false, true, true] (sv 22 [(0, V.m 1 0 m_0), (3, V.d (D.i IntKind.i64 (IntKind.i64.wrap (n_1 - 1))))]) [] [Ob.cells l_3 [], Ob.cells l_4 []]) Tr.ret)
  (ift (decide (0 ≤ n_1 ∧ n_1 ≤ (↑m_0 : Int)))
    (ob (o_tail [Ob.cells l_3 [], Ob.cells l_4 []] 1 (V.m 1 0 (n_1.toNat - 0))) fun (l_0 : List D) =>
      ift (headOk 1 l_0) (ift (decide (0 + l_0.length ≤ 4294967296)) (Tr.ret (V.d (D.l l_0.isEmpty ([] ++ l_0)), [Ob.cells l_3 [], Ob.cells l_4 []])))))) :=
  rk_of (by kernel_rfl)
theorem c51 (b : Bool) (xs : List D) :
    rk Tryd.prog polC (Task.call 51 [V.d (D.l b xs)] []) = interp (rk Tryd.prog polC) (
Tr.call (Task.at_ 51 0 [false, false, true, true] (sv 22 [(0, V.d (D.l b xs)), (3, V.d (D.i IntKind.i64 (↑xs.length : Int)))]) [] []) Tr.ret) :=
  rk_of (by kernel_rfl)
theorem c51_at19 (b_0 : Bool) (l_1 : List D) (n_2 : Int) :
    rk Tryd.prog polC (Task.at_ 51 0 [false, false, true, true] (sv 22 [(0, V.d (D.l b_0 l_1)), (3, V.d (D.i IntKind.i64 n_2))]) [] []) = interp (rk Tryd.prog polC) (
brB (decide (n_2 > 0))
  (ob (getI l_1 (IntKind.i64.wrap (n_2 - 1))) fun (d_0 : D) =>
    ift (d_0.width == 1)
      (ob l_1[(IntKind.i64.wrap (n_2 - 1)).toNat]? fun (d_1 : D) =>
        ob d_1.cells[0]? fun (d_2 : D) =>
          asI IntKind.u32 d_2 fun (n_3 : Int) =>
            Tr.call (Task.at_ 51 0 [true, false, false, false, false, true, true] (sv 22 [(0, V.d (D.l b_0 l_1)), (3, V.d (D.i IntKind.i64 n_2)), (15, V.d (D.b (n_3 == 0)))]) [] []) Tr.ret))
  (Tr.call (Task.at_ 51 0 [true, false, false, false, false, true, true] (sv 22 [(0, V.d (D.l b_0 l_1)), (3, V.d (D.i IntKind.i64 n_2)), (15, V.d (D.b false))]) [] []) Tr.ret)) :=
  rk_of (by kernel_rfl)
theorem s81 (b : Bool) (xs : List D) (c : Bool) (ys : List D) :
    rk Tryd.prog polS (Task.call 81 [V.d (D.l b xs), V.d (D.l c ys)] []) = interp (rk Tryd.prog polS) (
Tr.call (Task.call 51 [V.d (D.l b xs)] []) fun (o_0 : Out) =>
  asM o_0 fun (l_1 : List V) (m_2 : Nat) =>
    Tr.call (Task.call 51 [V.d (D.l c ys)] []) fun (o_3 : Out) =>
      asM o_3 fun (l_4 : List V) (m_5 : Nat) =>
        Tr.call (Task.call 62 [V.m 0 0 m_2, V.m 1 0 m_5] [Ob.cells l_4 [], Ob.cells l_1 []]) fun (o_6 : Out) =>
          unCons o_6.snd fun (x_7 : Ob) (l_8 : List Ob) =>
            unCells x_7 fun (l_9 : List V) (l_10 : Fl) =>
              ift (l_9.length == l_4.length)
                (ift (l_10 == [])
                  (unCons l_8 fun (x_11 : Ob) (l_12 : List Ob) =>
                    unCells x_11 fun (l_13 : List V) (l_14 : Fl) =>
                      ift (l_13.length == l_1.length)
                        (ift (l_14 == [])
                          (unNil l_12
                            (asD o_6.fst fun (d_15 : D) =>
                              asI IntKind.i64 d_15 fun (n_16 : Int) =>
                                brB (decide (n_16 < 0)) (Tr.ret (V.t [V.d (D.l true []), V.d (D.b false)], []))
                                  (Tr.call
                                    (Task.at_ 81 0 [false, true, false, true, true, true, true]
                                      (sv 55 [(0, V.m 0 0 m_2), (1, V.m 1 0 m_5), (6, V.d (D.i IntKind.u64 0)), (19, V.d (D.i IntKind.i64 (↑m_2 : Int))), (20, V.d (D.i IntKind.i64 0))]) []
                                      [Ob.cells l_9 [], Ob.cells l_13 []])
                                    Tr.ret))))))) :=
  rk_of (by kernel_rfl)
theorem s81_at175 (m_0 : Nat) (m_1 : Nat) (n_2 : Int) (n_3 : Int) (n_4 : Int) (l_5 : List V) (l_6 : List V) :
    rk Tryd.prog polS (Task.at_ 81 0 [false, true, false, true, true, true, true]
  (sv 55 [(0, V.m 0 0 m_0), (1, V.m 1 0 m_1), (6, V.d (D.i IntKind.u64 n_2)), (19, V.d (D.i IntKind.i64 n_3)), (20, V.d (D.i IntKind.i64 n_4))]) [] [Ob.cells l_5 [], Ob.cells l_6 []]) = interp (rk Tryd.prog polS) (
brB (decide (n_4 < n_3))
  (brB (decide (n_4 < (↑m_1 : Int)))
    (ift (decide (0 ≤ n_4 ∧ n_4 < (↑m_1 : Int)))
      (ob l_5[0 + n_4.toNat]? fun (v_0 : V) =>
        asD v_0 fun (d_1 : D) =>
          asI IntKind.u32 d_1 fun (n_2_1 : Int) =>
            Tr.call
              (Task.at_ 81 0 [true, true, true, false, false, true, true, false, false, true, false, true, true, true, true]
                (sv 55
                  [(0, V.m 0 0 m_0), (1, V.m 1 0 m_1), (7, V.d (D.i IntKind.i64 n_4)), (8, V.d (D.i IntKind.u64 (IntKind.u64.wrap (n_2 + IntKind.u64.wrap n_2_1)))), (19, V.d (D.i IntKind.i64 n_3)),
                    (20, V.d (D.i IntKind.i64 n_4))])
                [] [Ob.cells l_5 [], Ob.cells l_6 []])
              Tr.ret))
    (Tr.call
      (Task.at_ 81 0 [true, true, true, false, false, true, true, false, false, true, false, true, true, true, true]
        (sv 55 [(0, V.m 0 0 m_0), (1, V.m 1 0 m_1), (7, V.d (D.i IntKind.i64 n_4)), (8, V.d (D.i IntKind.u64 n_2)), (19, V.d (D.i IntKind.i64 n_3)), (20, V.d (D.i IntKind.i64 n_4))]) []
        [Ob.cells l_5 [], Ob.cells l_6 []])
      Tr.ret))
  (Tr.call (Task.call 51 [V.m 0 0 m_0] [Ob.cells l_6 []]) fun (o_3 : Out) =>
    unCons o_3.snd fun (x_4 : Ob) (l_5 : List Ob) =>
      unCells x_4 fun (l_6_1 : List V) (l_7 : Fl) =>
        ift (l_6_1.length == l_6.length) (ift (l_7 == []) (unNil l_5 (asD o_3.fst fun (d_8 : D) => asL d_8 fun (b_9 : Bool) (l_10 : List D) => Tr.ret (V.t [V.d (D.l b_9 l_10), V.d (D.b true)], [])))))) :=
  rk_of (by kernel_rfl)
theorem s81_at62255 (m_0 : Nat) (m_1 : Nat) (n_2 : Int) (n_3 : Int) (n_4 : Int) (n_5 : Int) (l_6 : List V) (l_7 : List V) :
    rk Tryd.prog polS (Task.at_ 81 0 [true, true, true, false, false, true, true, false, false, true, false, true, true, true, true]
  (sv 55 [(0, V.m 0 0 m_0), (1, V.m 1 0 m_1), (7, V.d (D.i IntKind.i64 n_2)), (8, V.d (D.i IntKind.u64 n_3)), (19, V.d (D.i IntKind.i64 n_4)), (20, V.d (D.i IntKind.i64 n_5))]) []
  [Ob.cells l_6 [], Ob.cells l_7 []]) = interp (rk Tryd.prog polS) (
ift (decide (0 ≤ n_2 ∧ n_2 < (↑m_0 : Int)))
  (ob l_7[0 + n_2.toNat]? fun (v_0 : V) =>
    asD v_0 fun (d_1 : D) =>
      asI IntKind.u32 d_1 fun (n_2_1 : Int) =>
        brB (decide (IntKind.u64.wrap n_2_1 < n_3))
          (Tr.call
            (Task.at_ 81 0 [true, true, true, true, true, true, false, false, true, true, false, false, true, false, true, true, true, true]
              (sv 55
                [(0, V.m 0 0 m_0), (1, V.m 1 0 m_1), (6, V.d (D.i IntKind.u64 1)), (7, V.d (D.i IntKind.i64 n_2)), (8, V.d (D.i IntKind.u64 n_3)),
                  (9, V.d (D.i IntKind.u64 (IntKind.u64.wrap (IntKind.u64.wrap n_2_1 + 4294967296)))), (19, V.d (D.i IntKind.i64 n_4)), (20, V.d (D.i IntKind.i64 n_5))])
              [] [Ob.cells l_6 [], Ob.cells l_7 []])
            Tr.ret)
          (Tr.call
            (Task.at_ 81 0 [true, true, true, true, true, true, false, false, true, true, false, false, true, false, true, true, true, true]
              (sv 55
                [(0, V.m 0 0 m_0), (1, V.m 1 0 m_1), (6, V.d (D.i IntKind.u64 0)), (7, V.d (D.i IntKind.i64 n_2)), (8, V.d (D.i IntKind.u64 n_3)), (9, V.d (D.i IntKind.u64 (IntKind.u64.wrap n_2_1))),
                  (19, V.d (D.i IntKind.i64 n_4)), (20, V.d (D.i IntKind.i64 n_5))])
              [] [Ob.cells l_6 [], Ob.cells l_7 []])
            Tr.ret))) :=
  rk_of (by kernel_rfl)
theorem s81_at521007 (m_0 : Nat) (m_1 : Nat) (n_2 : Int) (n_3 : Int) (n_4 : Int) (n_5 : Int) (n_6 : Int) (n_7 : Int) (l_8 : List V) (l_9 : List V) :
    rk Tryd.prog polS (Task.at_ 81 0 [true, true, true, true, true, true, false, false, true, true, false, false, true, false, true, true, true, true]
  (sv 55
    [(0, V.m 0 0 m_0), (1, V.m 1 0 m_1), (6, V.d (D.i IntKind.u64 n_2)), (7, V.d (D.i IntKind.i64 n_3)), (8, V.d (D.i IntKind.u64 n_4)), (9, V.d (D.i IntKind.u64 n_5)),
      (19, V.d (D.i IntKind.i64 n_6)), (20, V.d (D.i IntKind.i64 n_7))])
  [] [Ob.cells l_8 [], Ob.cells l_9 []]) = interp (rk Tryd.prog polS) (
ift (decide (0 ≤ n_3 ∧ n_3 < (↑m_0 : Int)))
  (ift (decide (0 + n_3.toNat < l_9.length) && true)
    (Tr.call
      (Task.at_ 81 0 [false, true, false, true, true, true, true]
        (sv 55 [(0, V.m 0 0 m_0), (1, V.m 1 0 m_1), (6, V.d (D.i IntKind.u64 n_2)), (19, V.d (D.i IntKind.i64 n_6)), (20, V.d (D.i IntKind.i64 (IntKind.i64.wrap (n_7 + 1))))]) []
        [Ob.cells l_8 [], Ob.cells (l_9.set (0 + n_3.toNat) (V.d (D.i IntKind.u32 (IntKind.u32.wrap (IntKind.u64.wrap (n_5 - n_4)))))) []])
      Tr.ret))) :=
  rk_of (by kernel_rfl)
end Go.Dn.Dec
namespace Go.Dn.Dec
open Go.Proofs
theorem cutA_loop (a : List Int) (ha : U32 a) (hb : a.length ≤ 1000000) : ∀ n : Nat, n ≤ a.length → valL (a.take n) = valL a →
    rk Tryd.prog polA (Task.at_ 51 1 [false, false, true, true] (sv 22 [(0, V.m 0 0 a.length), (3, V.d (D.i .i64 (n : Int)))]) [] [Ob.cells (cellsOf a) []]) = some (.d (nl (valL a)), [Ob.cells (cellsOf a) []])
  | 0, hn, hv => by
    rw [a51_at19]
    have h0 : valL a = 0 := by rw [← hv]; rfl
    have e : nl (valL a) = .l true [] := by rw [h0]; exact nl_of limbs_zero
    have hv0 := view_cells a 0 (by omega)
    simp [a51_at195, e, hv0, ints]
  | n + 1, hn, hv => by
    rw [a51_at19]
    have hx : n < a.length := by omega
    have gx := List.getElem?_eq_getElem hx
    have hp : (0 : Int) < (n : Int) + 1 := by omega
    have hw : IntKind.i64.wrap (n : Int) = (n : Int) := by rw [wrap_i64] <;> omega
    have hl : n + 1 ≤ 4294967296 := by omega
    have hni : (n : Int) < (a.length : Int) := by omega
    by_cases h0 : a[n] = 0
    · have ih := cutA_loop a ha hb n (by omega) (by rw [← hv]; exact (val_take_zero a n (by rw [gx, h0])).symm)
      simp [hp, hw, hni, cellsOf_get, gx, h0, a51_at195, ih]
    · have e : nl (valL a) = .l (a.take (n + 1)).isEmpty (ints .u32 (a.take (n + 1))) := by rw [← hv]; exact nl_of (limbs_take ha hx h0)
      have hle : (n : Int) + 1 ≤ (a.length : Int) := by omega
      have hp2 : (0 : Int) ≤ (n : Int) + 1 := by omega
      have ht : ((n : Int) + 1).toNat = n + 1 := by omega
      have hl2 : n + 1 ≤ a.length := by omega
      have hv1 := view_cells a (n + 1) hl2
      simp [hp, hw, hni, cellsOf_get, gx, h0, a51_at195, hle, hp2, ht, hv1, hl, e, isEmpty_ints, hl2]
theorem cutA_run (a : List Int) (ha : U32 a) (hb : a.length ≤ 1000000) : rk Tryd.prog polA (Task.call 51 [V.m 0 0 a.length] [Ob.cells (cellsOf a) []]) = some (.d (nl (valL a)), [Ob.cells (cellsOf a) []]) := by
  rw [a51]
  simp [cutA_loop a ha hb a.length (Nat.le_refl _) (by rw [List.take_length])]
theorem view_cells1 (a : List Int) (o : Ob) (n : Nat) (h : n ≤ a.length) : o_tail [Ob.cells (cellsOf a) [], o] 1 (V.m 1 0 n) = some (ints .u32 (a.take n)) := by
  simp only [o_tail, view, oget, List.length_cons, List.length_nil, Nat.zero_add, if_true]
  rw [if_pos (by rw [cellsOf_len]; omega)]
  simp only [List.drop_zero, cellsOf, ← List.map_take, take_ints, unDs_map]
theorem cutP_loop (a : List Int) (cs : List V) (ha : U32 a) (hb : a.length ≤ 1000000) : ∀ n : Nat, n ≤ a.length → valL (a.take n) = valL a →
    rk Tryd.prog polA (Task.at_ 51 2 [false, false, true, true] (sv 22 [(0, V.m 1 0 a.length), (3, V.d (D.i .i64 (n : Int)))]) [] [Ob.cells (cellsOf a) [], Ob.cells cs []]) = some (.d (nl (valL a)), [Ob.cells (cellsOf a) [], Ob.cells cs []])
  | 0, hn, hv => by
    rw [a51_at19_2]
    have h0 : valL a = 0 := by rw [← hv]; rfl
    have e : nl (valL a) = .l true [] := by rw [h0]; exact nl_of limbs_zero
    have hv0 := view_cells1 a (Ob.cells cs []) 0 (by omega)
    simp [a51_at195_1, e, hv0, ints]
  | n + 1, hn, hv => by
    rw [a51_at19_2]
    have hx : n < a.length := by omega
    have gx := List.getElem?_eq_getElem hx
    have hp : (0 : Int) < (n : Int) + 1 := by omega
    have hw : IntKind.i64.wrap (n : Int) = (n : Int) := by rw [wrap_i64] <;> omega
    have hl : n + 1 ≤ 4294967296 := by omega
    have hni : (n : Int) < (a.length : Int) := by omega
    by_cases h0 : a[n] = 0
    · have ih := cutP_loop a cs ha hb n (by omega) (by rw [← hv]; exact (val_take_zero a n (by rw [gx, h0])).symm)
      simp [hp, hw, hni, cellsOf_get, gx, h0, a51_at195_1, ih]
    · have e : nl (valL a) = .l (a.take (n + 1)).isEmpty (ints .u32 (a.take (n + 1))) := by rw [← hv]; exact nl_of (limbs_take ha hx h0)
      have hle : (n : Int) + 1 ≤ (a.length : Int) := by omega
      have hp2 : (0 : Int) ≤ (n : Int) + 1 := by omega
      have ht : ((n : Int) + 1).toNat = n + 1 := by omega
      have hl2 : n + 1 ≤ a.length := by omega
      have hv1 := view_cells1 a (Ob.cells cs []) (n + 1) hl2
      simp [hp, hw, hni, cellsOf_get, gx, h0, a51_at195_1, hle, hp2, ht, hv1, hl, e, isEmpty_ints, hl2]
theorem cutP_run (a : List Int) (cs : List V) (ha : U32 a) (hb : a.length ≤ 1000000) : rk Tryd.prog polA (Task.call 51 [V.m 1 0 a.length] [Ob.cells (cellsOf a) [], Ob.cells cs []]) = some (.d (nl (valL a)), [Ob.cells (cellsOf a) [], Ob.cells cs []]) := by
  rw [a51p]
  simp [cutP_loop a cs ha hb a.length (Nat.le_refl _) (by rw [List.take_length])]
theorem cmpA_loop (b_0 b_2 : Bool) (cs ds : List V) (a c : List Int) (ha : U32 a) (hc : U32 c) (hb : a.length ≤ 100000) (hac : a.length = c.length) : ∀ i : Nat, i ≤ a.length →
    rk Tryd.prog polA (Task.at_ 62 2 [false, true, false, true, true, true] (sv 49 [(0, V.d (D.l b_0 (ints .u32 a))), (1, V.d (D.l b_2 (ints .u32 c))), (5, V.d (D.i .i64 ((i : Int) - 1)))]) [] [Ob.cells ds [], Ob.cells cs []]) =
      some (.d (.i .i64 (cmpN (valL (a.take i)) (valL (c.take i)))), [Ob.cells ds [], Ob.cells cs []])
  | 0, hi => by
    rw [a62_at87]
    simp [cmpN]
  | i + 1, hi => by
    rw [a62_at87]
    have ih := cmpA_loop b_0 b_2 cs ds a c ha hc hb hac i (by omega)
    have hia : i < a.length := by omega
    have hic : i < c.length := by omega
    obtain ⟨u, eu, hu⟩ := ha.get hia
    obtain ⟨v, ev, hv⟩ := hc.get hic
    have ga : a[i]? = some (u : Int) := by rw [List.getElem?_eq_getElem hia, eu]
    have gc : c[i]? = some (v : Int) := by rw [List.getElem?_eq_getElem hic, ev]
    have pa := val_lt (ha.take i)
    have pc := val_lt (hc.take i)
    rw [List.length_take, Nat.min_eq_left (by omega)] at pa pc
    have e0 : (((i + 1 : Nat) : Int) - 1) = (i : Int) := by omega
    have h0 : (i : Int) ≥ 0 := by omega
    have hw : IntKind.i64.wrap ((i : Int) - 1) = (i : Int) - 1 := by rw [wrap_i64] <;> omega
    rw [e0, take_val a i hia, take_val c i hic, eu, ev]
    simp only [Int.toNat_natCast]
    generalize valL (a.take i) = p at *
    generalize valL (c.take i) = q at *
    rcases Nat.lt_trichotomy u v with h | h | h
    · have h1 : (u : Int) < (v : Int) := by omega
      have h2 : cmpN (p + W ^ i * u) (q + W ^ i * v) = -1 := by
        unfold cmpN; rw [if_pos (lex_lt pa h)]
      simp [h0, ga, gc, h1, h2]
    · subst h
      have h2 : cmpN (p + W ^ i * u) (q + W ^ i * u) = cmpN p q := by
        unfold cmpN; congr 1
        · exact propext (by omega)
        · congr 1; exact propext (by omega)
      rw [h2]
      simp [h0, ga, gc, hw, ih]
    · have h1 : ¬ (u : Int) < (v : Int) := by omega
      have h1' : (v : Int) < (u : Int) := by omega
      have h2 : cmpN (p + W ^ i * u) (q + W ^ i * v) = 1 := by
        have := lex_lt (q := p) pc h
        unfold cmpN; rw [if_neg (by omega), if_pos this]
      simp [h0, ga, gc, h1, h1', h2]
theorem val_len {a : List Int} (ha : U32 a) : (limbs (valL a)).length ≤ a.length := limbs_len (val_lt ha)
theorem cmpA_run (a c : List Int) (ha : U32 a) (hc : U32 c) (la : a.length ≤ 100000) (lc : c.length ≤ 100000) : rk Tryd.prog polA (Task.call 62 [V.m 0 0 a.length, V.m 1 0 c.length] [Ob.cells (cellsOf c) [], Ob.cells (cellsOf a) []]) = some (.d (.i .i64 (cmpN (valL a) (valL c))), [Ob.cells (cellsOf c) [], Ob.cells (cellsOf a) []]) := by
  rw [a62]
  have c1 := cutA_run a ha (by omega)
  have c2 := cutP_run c (cellsOf a) hc (by omega)
  rw [nl_ws] at c1 c2
  have lx := val_len ha
  have ly := val_len hc
  simp only [interp_call', c1, c2, Option.bind_some, unCons_c, unCells_c, unNil_n, beq_self_eq_true, interp_ift', if_true, asD_d, asL_l, ws_len, interp_brB, decide_eq_true_eq]
  generalize valL a = x at *
  generalize valL c = y at *
  by_cases h1 : (limbs x).length < (limbs y).length
  · have := len_lt h1
    rw [if_pos (by omega), cmpN, if_pos this]; rfl
  · by_cases h2 : (limbs y).length < (limbs x).length
    · have := len_lt h2
      rw [if_neg (by omega), if_pos (by omega), cmpN, if_neg (by omega), if_pos this]; rfl
    · have h3 : (limbs x).length = (limbs y).length := by omega
      have := cmpA_loop (nb x) (nb y) (cellsOf a) (cellsOf c) (limbs x) (limbs y) (limbs_u32 x) (limbs_u32 y) (by omega) h3 (limbs x).length (Nat.le_refl _)
      rw [List.take_length, h3, List.take_length, val_limbs, val_limbs] at this
      have hw : IntKind.i64.wrap (((limbs y).length : Int) - 1) = ((limbs y).length : Int) - 1 := by rw [wrap_i64] <;> omega
      rw [if_neg (by omega), if_neg (by omega), h3, hw, ws, ws, this]
      rfl
/-! ### cut that makes a row of its own -/
theorem c51_at195 (b_0 : Bool) (l_1 : List D) (n_2 : Int) (b_3 : Bool) :
    rk Tryd.prog polC (Task.at_ 51 0 [true, false, false, false, false, true, true] (sv 22 [(0, V.d (D.l b_0 l_1)), (3, V.d (D.i IntKind.i64 n_2)), (15, V.d (D.b b_3))]) [] []) = interp (rk Tryd.prog polC) (
brB b_3 (Tr.call (Task.at_ 51 0 [false, false, true, true] (sv 22 [(0, V.d (D.l b_0 l_1)), (3, V.d (D.i IntKind.i64 (IntKind.i64.wrap (n_2 - 1))))]) [] []) Tr.ret)
  (ift (decide (0 ≤ n_2 ∧ n_2 ≤ (↑l_1.length : Int)))
    (ift (headOk 1 l_1)
      (ift (headOk 1 (List.take (n_2.toNat - 0) (List.drop 0 l_1)))
        (ift (((List.take (n_2.toNat - 0) (List.drop 0 l_1)).map V.d).all V.one)
         (ift (decide ((List.take (n_2.toNat - 0) (List.drop 0 l_1)).length ≤ 4294967296))
          (ob (out1 0 (V.m 0 0 (List.take (n_2.toNat - 0) (List.drop 0 l_1)).length) [Ob.cells (List.map V.d (List.take (n_2.toNat - 0) (List.drop 0 l_1))) []]) Tr.ret))))))) :=
  rk_of (by kernel_rfl)
theorem refs_cells (a : List Int) : refsLts 0 (cellsOf a) = true := by
  refine refsLts_get.2 fun c hc => ?_
  simp only [cellsOf, ints, List.map_map, List.mem_map] at hc
  obtain ⟨z, _, rfl⟩ := hc
  rfl
theorem one_cells (a : List Int) : (cellsOf a).all V.one = true := by
  rw [List.all_eq_true]
  intro c hc
  simp only [cellsOf, ints, List.map_map, List.mem_map] at hc
  obtain ⟨z, _, rfl⟩ := hc
  rfl
theorem out_cells (a : List Int) (n : Nat) : out1 0 (V.m 0 0 n) [Ob.cells (cellsOf a) []] = some (.m 0 0 n, [.cells (cellsOf a) []]) := by
  simp [out1, oget, refs_cells, cutS]
theorem cutC_loop (b : Bool) (a : List Int) (ha : U32 a) (hb : a.length ≤ 1000000) : ∀ n : Nat, n ≤ a.length → valL (a.take n) = valL a →
    rk Tryd.prog polC (Task.at_ 51 0 [false, false, true, true] (sv 22 [(0, V.d (D.l b (ints .u32 a))), (3, V.d (D.i .i64 (n : Int)))]) [] []) = some (.m 0 0 (limbs (valL a)).length, [.cells (cellsOf (limbs (valL a))) []])
  | 0, hn, hv => by
    rw [c51_at19]
    have h0 : valL a = 0 := by rw [← hv]; rfl
    have ho : out1 0 (V.m 0 0 0) [Ob.cells [] []] = some (.m 0 0 0, [.cells [] []]) := out_cells [] 0
    have hc0 : cellsOf [] = [] := rfl
    simp [c51_at195, h0, limbs_zero, hc0, ho]
  | n + 1, hn, hv => by
    rw [c51_at19]
    have hx : n < a.length := by omega
    have gx := List.getElem?_eq_getElem hx
    have hp : (0 : Int) < (n : Int) + 1 := by omega
    have hw : IntKind.i64.wrap (n : Int) = (n : Int) := by rw [wrap_i64] <;> omega
    by_cases h0 : a[n] = 0
    · have ih := cutC_loop b a ha hb n (by omega) (by rw [← hv]; exact (val_take_zero a n (by rw [gx, h0])).symm)
      simp [hp, hw, gx, h0, c51_at195, ih]
    · have e : limbs (valL a) = a.take (n + 1) := by rw [← hv]; exact limbs_take ha hx h0
      have hle : ((0 : Int) ≤ (n : Int) + 1 ∧ (n : Int) + 1 ≤ ((ints .u32 a).length : Nat)) := by rw [len_ints]; omega
      have ht : ((n : Int) + 1).toNat = n + 1 := by omega
      have e1 : List.take ((n + 1) - 0) (List.drop 0 (ints .u32 a)) = ints .u32 (a.take (n + 1)) := by simp [take_ints]
      have e2 : (ints .u32 (a.take (n + 1))).map V.d = cellsOf (a.take (n + 1)) := rfl
      have hl : (a.take (n + 1)).length ≤ 4294967296 := by rw [List.length_take]; omega
      have hl2 : (ints .u32 (a.take (n + 1))).length = (a.take (n + 1)).length := by rw [len_ints]
      rw [e]
      have hb0 : ((a[n] : Int) == 0) = false := beq_eq_false_iff_ne.2 h0
      have hpd : ((n + 1 : Nat) : Int) > 0 := by omega
      have hn1 : ((n + 1 : Nat) : Int) = (n : Int) + 1 := by omega
      have hwi : IntKind.i64.wrap (((n + 1 : Nat) : Int) - 1) = (n : Int) := by rw [wrap_i64] <;> omega
      simp only [interp_brB, decide_eq_true hpd, if_true, hwi, interp_ob', getI_nat, get_ints, gx, Option.map_some, Option.bind_some, width_i, beq_self_eq_true, interp_ift', Int.toNat_natCast, cells_i, List.getElem?_cons_zero, interp_asI, hb0, interp_call_ret]
      rw [c51_at195, hn1, ht, e1, e2]
      simp only [interp_brB, Bool.false_eq_true, if_false, interp_ift', decide_eq_true hle, head_ints, if_true, one_cells, decide_eq_true hl, interp_ob', hl2, out_cells, Option.bind_some, interp_ret]
theorem cutC_run (b : Bool) (a : List Int) (ha : U32 a) (hb : a.length ≤ 1000000) : rk Tryd.prog polC (Task.call 51 [V.d (D.l b (ints .u32 a))] []) = some (.m 0 0 (limbs (valL a)).length, [.cells (cellsOf (limbs (valL a))) []]) := by
  rw [c51]
  simp [cutC_loop b a ha hb a.length (Nat.le_refl _) (by rw [List.take_length])]
/-! ### Sub -/
theorem cmpN_neg' (x y : Nat) : decide (cmpN x y < 0) = decide (x < y) := by
  unfold cmpN
  by_cases h : x < y
  · simp [h]
  · by_cases h2 : y < x <;> simp [h, h2]
theorem ext_callS {k : Nat} {g : List V → List Ob → Option Out} (h : polS.ext k = some g) (args : List V) (S : List Ob) : rk Tryd.prog polS (Task.call k args S) = g args S := by
  rw [rk_eq]
  simp only [stepK, h, interp_ob']
  cases g args S <;> simp
theorem unInts_ints' (a : List Int) : unInts .u32 (ints .u32 a) = some a := by
  induction a with
  | nil => rfl
  | cons z a ih => rw [ints_cons, unInts, if_pos rfl, ih]; rfl
theorem unCells_cells (a : List Int) : unCellsU (cellsOf a) = some a := by
  induction a with
  | nil => rfl
  | cons z a ih =>
    show unCellsU (V.d (.i .u32 z) :: cellsOf a) = _
    rw [unCellsU, ih]; rfl
theorem ok_u {a : List Int} (h : U32 a) (hl : a.length ≤ 100000) : okU a = true := by
  have : (a.all fun z => decide (0 ≤ z) && decide (z < 4294967296)) = true := by
    rw [List.all_eq_true]
    intro z hz
    have := h z hz
    simp [this.1, this.2]
  simp only [okU, this, Bool.true_and]
  exact decide_eq_true hl
theorem cutS_d (b : Bool) (a : List Int) (ha : U32 a) (hl : a.length ≤ 100000) : rk Tryd.prog polS (Task.call 51 [V.d (D.l b (ints .u32 a))] []) = some (.m 0 0 (limbs (valL a)).length, [.cells (cellsOf (limbs (valL a))) []]) := by
  rw [ext_callS (g := cutExtS) rfl]
  simp only [cutExtS, unInts_ints']
  rw [if_pos (ok_u ha hl)]
  simp [cellsU, cellsOf, ints]
theorem cutS_m (a : List Int) (ha : U32 a) (hl : a.length ≤ 100000) : rk Tryd.prog polS (Task.call 51 [V.m 0 0 a.length] [.cells (cellsOf a) []]) = some (.d (nl (valL a)), [.cells (cellsOf a) []]) := by
  rw [ext_callS (g := cutExtS) rfl]
  simp only [cutExtS, unCells_cells]
  rw [if_pos ⟨trivial, ok_u ha hl⟩]
theorem cmpS_m (a c : List Int) (ha : U32 a) (hc : U32 c) (hl : a.length ≤ 100000) (hlc : c.length ≤ 100000) : rk Tryd.prog polS (Task.call 62 [V.m 0 0 a.length, V.m 1 0 c.length] [.cells (cellsOf c) [], .cells (cellsOf a) []]) = some (.d (.i .i64 (cmpN (valL a) (valL c))), [.cells (cellsOf c) [], .cells (cellsOf a) []]) := by
  rw [ext_callS (g := cmpExtS) rfl]
  simp only [cmpExtS, unCells_cells]
  rw [if_pos ⟨trivial, trivial, ok_u ha hl, ok_u hc hlc⟩]
  rfl
theorem set_mid (out : List Int) (x d : Int) (r : List Int) : (out ++ x :: r).set out.length d = out ++ d :: r := by
  rw [List.set_append_right _ _ (Nat.le_refl _), Nat.sub_self]; rfl
theorem sub_last (X Y A : List Int) (i b : Nat) (n : Nat) (hi : i < X.length) (hX : X.length ≤ 100000) (T H : Nat) (b' : Nat) (R : Option Out) (hA : A.length = X.length) (hTH : T ≤ H) (hHT : H - T < 4294967296) (hH : H < 18446744073709551616)
    (h : rk Tryd.prog polS (Task.at_ 81 0 [false, true, false, true, true, true, true] (sv 55 [(0, V.m 0 0 X.length), (1, V.m 1 0 Y.length), (6, V.d (D.i IntKind.u64 (b' : Int))), (19, V.d (D.i IntKind.i64 (n : Int))), (20, V.d (D.i IntKind.i64 ((i + 1 : Nat) : Int)))]) []
        [Ob.cells (cellsOf Y) [], Ob.cells (cellsOf (A.set i ((H - T : Nat) : Int))) []]) = R) :
    rk Tryd.prog polS (Task.at_ 81 0 [true, true, true, true, true, true, false, false, true, true, false, false, true, false, true, true, true, true]
  (sv 55 [(0, V.m 0 0 X.length), (1, V.m 1 0 Y.length), (6, V.d (D.i IntKind.u64 (b' : Int))), (7, V.d (D.i IntKind.i64 (i : Int))), (8, V.d (D.i IntKind.u64 (T : Int))), (9, V.d (D.i IntKind.u64 (H : Int))), (19, V.d (D.i IntKind.i64 (n : Int))), (20, V.d (D.i IntKind.i64 (i : Int)))])
  [] [Ob.cells (cellsOf Y) [], Ob.cells (cellsOf A) []]) = R := by
  rw [s81_at521007]
  have hb1 : (0 : Int) ≤ (i : Int) ∧ (i : Int) < ((X.length : Nat) : Int) := by omega
  have hb2 : i < (cellsOf A).length := by rw [cellsOf_len]; omega
  have hw1 : IntKind.u64.wrap ((H : Int) - (T : Int)) = ((H - T : Nat) : Int) := by rw [u64_wrap]; omega
  have hw2 : IntKind.u32.wrap ((H - T : Nat) : Int) = ((H - T : Nat) : Int) := by rw [u32_wrap]; omega
  have hw3 : IntKind.i64.wrap ((i : Int) + 1) = ((i + 1 : Nat) : Int) := by rw [wrap_i64] <;> omega
  simp only [interp_ift', decide_eq_true hb1, if_true, Int.toNat_natCast, decide_eq_true hb2, Bool.and_true, hw1, hw2, hw3, Nat.zero_add, cells_set, interp_call_ret, h]
theorem sub_mid (X Y A : List Int) (i : Nat) (n : Nat) (hi : i < X.length) (hX : X.length ≤ 100000) (T x : Nat) (hx : x < 4294967296) (hT : T ≤ 4294967296) (R : Option Out) (hA : A.length = X.length) (hg : A[i]? = some (x : Int))
    (h : rk Tryd.prog polS (Task.at_ 81 0 [false, true, false, true, true, true, true] (sv 55 [(0, V.m 0 0 X.length), (1, V.m 1 0 Y.length), (6, V.d (D.i IntKind.u64 ((if x < T then 1 else 0 : Nat) : Int))), (19, V.d (D.i IntKind.i64 (n : Int))), (20, V.d (D.i IntKind.i64 ((i + 1 : Nat) : Int)))]) []
        [Ob.cells (cellsOf Y) [], Ob.cells (cellsOf (A.set i (((x + W * (if x < T then 1 else 0) - T : Nat)) : Int))) []]) = R) :
    rk Tryd.prog polS (Task.at_ 81 0 [true, true, true, false, false, true, true, false, false, true, false, true, true, true, true]
  (sv 55 [(0, V.m 0 0 X.length), (1, V.m 1 0 Y.length), (7, V.d (D.i IntKind.i64 (i : Int))), (8, V.d (D.i IntKind.u64 (T : Int))), (19, V.d (D.i IntKind.i64 (n : Int))), (20, V.d (D.i IntKind.i64 (i : Int)))]) []
  [Ob.cells (cellsOf Y) [], Ob.cells (cellsOf A) []]) = R := by
  rw [s81_at62255]
  have hb1 : (0 : Int) ≤ (i : Int) ∧ (i : Int) < ((X.length : Nat) : Int) := by omega
  have hw1 : IntKind.u64.wrap (x : Int) = (x : Int) := by rw [u64_wrap]; omega
  have hw2 : IntKind.u64.wrap ((x : Int) + 4294967296) = ((x + 4294967296 : Nat) : Int) := by rw [u64_wrap]; omega
  simp only [interp_ift', decide_eq_true hb1, if_true, Int.toNat_natCast, Nat.zero_add, cellsOf_get, hg, Option.map_some, interp_ob', Option.bind_some, asD_d, interp_asI, hw1, hw2, interp_brB, decide_eq_true_eq]
  by_cases hlt : x < T
  · have hlt' : (x : Int) < (T : Int) := by omega
    rw [if_pos hlt', interp_call_ret]
    simp only [if_pos hlt, Nat.mul_one] at h
    have e : x + W = x + 4294967296 := rfl
    rw [e] at h
    exact sub_last X Y A i 0 n hi hX T (x + 4294967296) 1 R hA (by omega) (by omega) (by omega) h
  · have hlt' : ¬ (x : Int) < (T : Int) := by omega
    rw [if_neg hlt', interp_call_ret]
    simp only [if_neg hlt, Nat.mul_zero, Nat.add_zero] at h
    exact sub_last X Y A i 0 n hi hX T x 0 R hA (by omega) (by omega) (by omega) h
theorem sub_loop (X Y : List Int) (hX : U32 X) (hY : U32 Y) (lX : X.length ≤ 100000) (lY : Y.length ≤ 100000) (hYX : Y.length ≤ X.length) (hge : valL Y ≤ valL X) : ∀ (d i : Nat) (out : List Int) (b : Nat), i + d = X.length → U32 out → out.length = i → b ≤ 1 → valL out + valL (Y.take i) = valL (X.take i) + W ^ i * b →
    rk Tryd.prog polS (Task.at_ 81 0 [false, true, false, true, true, true, true] (sv 55 [(0, V.m 0 0 X.length), (1, V.m 1 0 Y.length), (6, V.d (D.i IntKind.u64 (b : Int))), (19, V.d (D.i IntKind.i64 (X.length : Int))), (20, V.d (D.i IntKind.i64 (i : Int)))]) []
        [Ob.cells (cellsOf Y) [], Ob.cells (cellsOf (out ++ X.drop i)) []]) = some (.t [.d (nl (valL X - valL Y)), .d (.b true)], []) := by
  intro d
  induction d with
  | zero =>
    intro i out b hi hu hl hb hv
    rw [s81_at175]
    have hd : X.drop i = [] := List.drop_eq_nil_of_le (by omega)
    have hol : X.length = out.length := by omega
    have h3 : ¬ ((i : Int) < ((out.length : Nat) : Int)) := by omega
    rw [hd, List.append_nil]
    rw [List.take_of_length_le (show Y.length ≤ i by omega), List.take_of_length_le (show X.length ≤ i by omega)] at hv
    have hlt := val_lt hu
    rw [hl] at hlt
    have hb0 : b = 0 := by
      rcases (show b = 0 ∨ b = 1 by omega) with h | h
      · exact h
      · rw [h, Nat.mul_one] at hv; omega
    have hvo : valL out = valL X - valL Y := by rw [hb0, Nat.mul_zero] at hv; omega
    have hcm := cutS_m out hu (by omega)
    rw [hvo, nl_ws] at hcm
    simp only [interp_brB, decide_eq_false h3, Bool.false_eq_true, if_false, hol, interp_call', hcm, Option.bind_some, unCons_c, unCells_c, unNil_n, beq_self_eq_true, interp_ift', if_true, asD_d, asL_l, interp_ret]
    rfl
  | succ d ih =>
    intro i out b hi hu hl hb hv
    have hiX : i < X.length := by omega
    have h3 : (i : Int) < ((X.length : Nat) : Int) := by omega
    obtain ⟨x, ex, hx⟩ := hX.get hiX
    have hdr : X.drop i = (x : Int) :: X.drop (i + 1) := by rw [List.drop_eq_getElem_cons hiX, ex]
    have hg : (out ++ X.drop i)[i]? = some (x : Int) := by rw [hdr, ← hl]; simp
    have hAl : (out ++ X.drop i).length = X.length := by rw [List.length_append, List.length_drop]; omega
    have fin : ∀ T y : Nat, T = b + y → y < 4294967296 → valL (Y.take (i + 1)) = valL (Y.take i) + W ^ i * y →
        rk Tryd.prog polS (Task.at_ 81 0 [true, true, true, false, false, true, true, false, false, true, false, true, true, true, true]
  (sv 55 [(0, V.m 0 0 X.length), (1, V.m 1 0 Y.length), (7, V.d (D.i IntKind.i64 (i : Int))), (8, V.d (D.i IntKind.u64 (T : Int))), (19, V.d (D.i IntKind.i64 (X.length : Int))), (20, V.d (D.i IntKind.i64 (i : Int)))]) []
  [Ob.cells (cellsOf Y) [], Ob.cells (cellsOf (out ++ X.drop i)) []]) = some (.t [.d (nl (valL X - valL Y)), .d (.b true)], []) := by
      intro T y hT hy hyv
      refine sub_mid X Y _ i _ hiX lX T x hx (by omega) _ hAl hg ?_
      have hset : (out ++ X.drop i).set i (((x + W * (if x < T then 1 else 0) - T : Nat)) : Int) = (out ++ [((x + W * (if x < T then 1 else 0) - T : Nat) : Int)]) ++ X.drop (i + 1) := by
        rw [hdr, ← hl, set_mid]; simp
      rw [hset]
      have hd1 : x + W * (if x < T then 1 else 0) - T < 4294967296 := by unfold W; split <;> omega
      have hd2 : x + W * (if x < T then 1 else 0) - T + T = x + W * (if x < T then 1 else 0) := by unfold W; split <;> omega
      refine ih (i + 1) _ (if x < T then 1 else 0) (by omega) (hu.snoc hd1) (by simp [hl]) (by split <;> omega) ?_
      generalize x + W * (if x < T then 1 else 0) - T = dd at hd2
      rw [val_append, hl, take_val X i hiX, ex, hyv]
      simp only [valL, Int.toNat_natCast, Nat.mul_zero, Nat.add_zero]
      rw [Nat.pow_succ]
      have e1 : W ^ i * dd + W ^ i * T = W ^ i * x + W ^ i * (W * (if x < T then 1 else 0)) := by rw [← Nat.mul_add, hd2, Nat.mul_add]
      rw [hT, Nat.mul_add] at e1
      rw [← hT] at e1
      rw [Nat.mul_assoc]
      omega
    rw [s81_at175]
    by_cases hiY : i < Y.length
    · have h4 : (i : Int) < ((Y.length : Nat) : Int) := by omega
      obtain ⟨y, ey, hy⟩ := hY.get hiY
      have gy : Y[i]? = some (y : Int) := by rw [List.getElem?_eq_getElem hiY, ey]
      have hb1 : (0 : Int) ≤ (i : Int) ∧ (i : Int) < ((Y.length : Nat) : Int) := by omega
      have hw : IntKind.u64.wrap ((b : Int) + IntKind.u64.wrap (y : Int)) = ((b + y : Nat) : Int) := by rw [u64_wrap (y : Int), u64_wrap]; omega
      simp only [interp_brB, decide_eq_true h3, decide_eq_true h4, if_true, interp_ift', decide_eq_true hb1, Int.toNat_natCast, Nat.zero_add, cellsOf_get, gy, Option.map_some, interp_ob', Option.bind_some, asD_d, interp_asI, hw, interp_call_ret]
      exact fin (b + y) y rfl hy (by rw [take_val Y i hiY, ey, Int.toNat_natCast])
    · have h4 : ¬ (i : Int) < ((Y.length : Nat) : Int) := by omega
      simp only [interp_brB, decide_eq_true h3, decide_eq_false h4, if_true, Bool.false_eq_true, if_false, interp_call_ret]
      exact fin b 0 rfl (by decide) (by rw [List.take_of_length_le (by omega), List.take_of_length_le (by omega)]; simp)
theorem sub_run (b c : Bool) (a e : List Int) (ha : U32 a) (he : U32 e) (la : a.length ≤ 100000) (le : e.length ≤ 100000) : rk Tryd.prog polS (Task.call 81 [V.d (D.l b (ints .u32 a)), V.d (D.l c (ints .u32 e))] []) = some (subR (valL a) (valL e), []) := by
  rw [s81]
  have lx := val_len ha
  have ly := val_len he
  have c1 := cutS_d b a ha la
  have c2 := cutS_d c e he le
  have c3 := cmpS_m (limbs (valL a)) (limbs (valL e)) (limbs_u32 _) (limbs_u32 _) (by omega) (by omega)
  rw [val_limbs, val_limbs] at c3
  simp only [interp_call', c1, Option.bind_some, interp_asM, refs_cells, if_true, c2, c3, unCons_c, unCells_c, unNil_n, beq_self_eq_true, interp_ift', asD_d, interp_asI, interp_brB, cmpN_neg']
  unfold subR
  by_cases h : valL a < valL e
  · rw [if_pos (by simpa using h), if_pos h]; rfl
  · rw [if_neg (by simpa using h), if_neg h]
    have hll : (limbs (valL e)).length ≤ (limbs (valL a)).length := by
      rcases Nat.lt_or_ge (limbs (valL a)).length (limbs (valL e)).length with h' | h'
      · exact absurd (len_lt h') h
      · exact h'
    have := sub_loop (limbs (valL a)) (limbs (valL e)) (limbs_u32 _) (limbs_u32 _) (by omega) (by omega) hll (by rw [val_limbs, val_limbs]; omega) (limbs (valL a)).length 0 [] 0 (by omega) U32.nil rfl (by decide) (by simp [valL])
    rw [val_limbs, val_limbs, List.nil_append, List.drop_zero, Int.natCast_zero] at this
    rw [this]; rfl
end Go.Dn.Dec
namespace Go.Proofs
open Go.Shelf
def Tryd.lays161_ren : Go.Shelf.Ren := ⟨fun | 161 => 49 | 231 => 70 | 227 => 65 | 233 => 71 | 235 => 72 | 228 => 76 | 197 => 80 | 151 => 78 | 260 => 88 | 152 => 87 | 137 => 94 | 119 => 95 | 224 => 96 | 225 => 97 | 217 => 100 | 266 => 101 | n => n, fun | 9 => 9 | 4 => 4 | 3 => 3 | 5 => 5 | 117 => 85 | 116 => 84 | 0 => 0 | 124 => 88 | 105 => 92 | 21 => 21 | 119 => 111 | 46 => 31 | 139 => 114 | 138 => 113 | n => n, fun | 3 => 1 | 4 => 2 | n => n⟩
theorem Tryd.lays161 : Go.Proofs.Lays.n161 Tryd.prog Tryd.lays161_ren := {
  mixed := by kernel_rfl
  f119 := Tryd.func95.trans (congrArg some (by kernel_rfl))
  f137 := Tryd.func94.trans (congrArg some (by kernel_rfl))
  f151 := Tryd.func78.trans (congrArg some (by kernel_rfl))
  f152 := Tryd.func87.trans (congrArg some (by kernel_rfl))
  f161 := Tryd.func49.trans (congrArg some (by kernel_rfl))
  f197 := Tryd.func80.trans (congrArg some (by kernel_rfl))
  f217 := Tryd.func100.trans (congrArg some (by kernel_rfl))
  f224 := Tryd.func96.trans (congrArg some (by kernel_rfl))
  f225 := Tryd.func97.trans (congrArg some (by kernel_rfl))
  f227 := Tryd.func65.trans (congrArg some (by kernel_rfl))
  f228 := Tryd.func76.trans (congrArg some (by kernel_rfl))
  f231 := Tryd.func70.trans (congrArg some (by kernel_rfl))
  f233 := Tryd.func71.trans (congrArg some (by kernel_rfl))
  f235 := Tryd.func72.trans (congrArg some (by kernel_rfl))
  f260 := Tryd.func88.trans (congrArg some (by kernel_rfl))
  f266 := Tryd.func101.trans (congrArg some (by kernel_rfl))
  t0 := Tryd.underlying0
  a0 := Tryd.isAgg0
  z0 := Tryd.sizeOf0
  v0 := Tryd.zeroValue0
  t3 := Tryd.underlying3
  a3 := Tryd.isAgg3
  z3 := Tryd.sizeOf3
  v3 := Tryd.zeroValue3
  t4 := Tryd.underlying4
  a4 := Tryd.isAgg4
  z4 := Tryd.sizeOf4
  v4 := Tryd.zeroValue4
  t5 := Tryd.underlying5
  a5 := Tryd.isAgg5
  z5 := Tryd.sizeOf5
  v5 := Tryd.zeroValue5
  t9 := Tryd.underlying9
  a9 := Tryd.isAgg9
  z9 := Tryd.sizeOf9
  v9 := Tryd.zeroValue9
  t21 := Tryd.underlying21
  a21 := Tryd.isAgg21
  z21 := Tryd.sizeOf21
  v21 := Tryd.zeroValue21
  t46 := Tryd.underlying31
  a46 := Tryd.isAgg31
  z46 := Tryd.sizeOf31
  v46 := Tryd.zeroValue31
  t105 := Tryd.underlying92
  a105 := Tryd.isAgg92
  z105 := Tryd.sizeOf92
  v105 := Tryd.zeroValue92
  t116 := Tryd.underlying84
  a116 := Tryd.isAgg84
  z116 := Tryd.sizeOf84
  t117 := Tryd.underlying85
  a117 := Tryd.isAgg85
  z117 := Tryd.sizeOf85
  v117 := Tryd.zeroValue85
  t119 := Tryd.underlying111
  a119 := Tryd.isAgg111
  z119 := Tryd.sizeOf111
  t124 := Tryd.underlying88
  a124 := Tryd.isAgg88
  z124 := Tryd.sizeOf88
  v124 := Tryd.zeroValue88
  t138 := Tryd.underlying113
  a138 := Tryd.isAgg113
  z138 := Tryd.sizeOf113
  v138 := Tryd.zeroValue113
  t139 := Tryd.underlying114
  a139 := Tryd.isAgg114
  z139 := Tryd.sizeOf114
  v139 := Tryd.zeroValue114
  g3 := by kernel_rfl
  g4 := by kernel_rfl }
open Go.RowKit in
/-- strings.TrimLeft: "TrimLeft returns a slice of the string s with all leading Unicode code points contained in cutset removed.": AT A cutset OF ONE ASCII BYTE. The world is as it was. (LAID: no walk: one application.) -/
theorem Tryd.strings_TrimLeft_one (s : ByteArray) (c : UInt8) (hc : c.toNat < 128) (w : World) :
    Calls Tryd.prog 49 #[.string s, .string ⟨#[c]⟩] w fun e w' => e = .returned (.string ⟨(Lib.trimLeftB s.data.toList c).toArray⟩) ∧ w' = w := Any.strings_TrimLeft_one Tryd.lays161 s c hc w
def Tryd.lays162_ren : Go.Shelf.Ren := ⟨fun | 162 => 38 | 232 => 64 | 227 => 65 | 234 => 66 | 236 => 67 | 228 => 76 | 271 => 77 | 151 => 78 | 120 => 86 | 197 => 80 | 152 => 87 | 260 => 88 | 137 => 94 | 119 => 95 | 224 => 96 | 225 => 97 | 217 => 100 | 266 => 101 | n => n, fun | 9 => 9 | 4 => 4 | 3 => 3 | 5 => 5 | 117 => 85 | 116 => 84 | 0 => 0 | 124 => 88 | 21 => 21 | 105 => 92 | 46 => 31 | 119 => 111 | 139 => 114 | 138 => 113 | n => n, fun | 3 => 1 | 4 => 2 | n => n⟩
theorem Tryd.lays162 : Go.Proofs.Lays.n162 Tryd.prog Tryd.lays162_ren := {
  mixed := by kernel_rfl
  f119 := Tryd.func95.trans (congrArg some (by kernel_rfl))
  f120 := Tryd.func86.trans (congrArg some (by kernel_rfl))
  f137 := Tryd.func94.trans (congrArg some (by kernel_rfl))
  f151 := Tryd.func78.trans (congrArg some (by kernel_rfl))
  f152 := Tryd.func87.trans (congrArg some (by kernel_rfl))
  f162 := Tryd.func38.trans (congrArg some (by kernel_rfl))
  f197 := Tryd.func80.trans (congrArg some (by kernel_rfl))
  f217 := Tryd.func100.trans (congrArg some (by kernel_rfl))
  f224 := Tryd.func96.trans (congrArg some (by kernel_rfl))
  f225 := Tryd.func97.trans (congrArg some (by kernel_rfl))
  f227 := Tryd.func65.trans (congrArg some (by kernel_rfl))
  f228 := Tryd.func76.trans (congrArg some (by kernel_rfl))
  f232 := Tryd.func64.trans (congrArg some (by kernel_rfl))
  f234 := Tryd.func66.trans (congrArg some (by kernel_rfl))
  f236 := Tryd.func67.trans (congrArg some (by kernel_rfl))
  f260 := Tryd.func88.trans (congrArg some (by kernel_rfl))
  f266 := Tryd.func101.trans (congrArg some (by kernel_rfl))
  f271 := Tryd.func77.trans (congrArg some (by kernel_rfl))
  t0 := Tryd.underlying0
  a0 := Tryd.isAgg0
  z0 := Tryd.sizeOf0
  v0 := Tryd.zeroValue0
  t3 := Tryd.underlying3
  a3 := Tryd.isAgg3
  z3 := Tryd.sizeOf3
  v3 := Tryd.zeroValue3
  t4 := Tryd.underlying4
  a4 := Tryd.isAgg4
  z4 := Tryd.sizeOf4
  v4 := Tryd.zeroValue4
  t5 := Tryd.underlying5
  a5 := Tryd.isAgg5
  z5 := Tryd.sizeOf5
  v5 := Tryd.zeroValue5
  t9 := Tryd.underlying9
  a9 := Tryd.isAgg9
  z9 := Tryd.sizeOf9
  v9 := Tryd.zeroValue9
  t21 := Tryd.underlying21
  a21 := Tryd.isAgg21
  z21 := Tryd.sizeOf21
  v21 := Tryd.zeroValue21
  t46 := Tryd.underlying31
  a46 := Tryd.isAgg31
  z46 := Tryd.sizeOf31
  v46 := Tryd.zeroValue31
  t105 := Tryd.underlying92
  a105 := Tryd.isAgg92
  z105 := Tryd.sizeOf92
  v105 := Tryd.zeroValue92
  t116 := Tryd.underlying84
  a116 := Tryd.isAgg84
  z116 := Tryd.sizeOf84
  t117 := Tryd.underlying85
  a117 := Tryd.isAgg85
  z117 := Tryd.sizeOf85
  v117 := Tryd.zeroValue85
  t119 := Tryd.underlying111
  a119 := Tryd.isAgg111
  z119 := Tryd.sizeOf111
  t124 := Tryd.underlying88
  a124 := Tryd.isAgg88
  z124 := Tryd.sizeOf88
  v124 := Tryd.zeroValue88
  t138 := Tryd.underlying113
  a138 := Tryd.isAgg113
  z138 := Tryd.sizeOf113
  v138 := Tryd.zeroValue113
  t139 := Tryd.underlying114
  a139 := Tryd.isAgg114
  z139 := Tryd.sizeOf114
  v139 := Tryd.zeroValue114
  g3 := by kernel_rfl
  g4 := by kernel_rfl }
open Go.RowKit in
/-- strings.TrimRight: "TrimRight returns a slice of the string s, with all trailing Unicode code points contained in cutset removed.": AT A cutset OF ONE ASCII BYTE. The world is as it was. (LAID: no walk: one application.) -/
theorem Tryd.strings_TrimRight_one (s : ByteArray) (c : UInt8) (hc : c.toNat < 128) (w : World) (hs : s.size ≤ 9223372036854775807) :
    Calls Tryd.prog 38 #[.string s, .string ⟨#[c]⟩] w fun e w' => e = .returned (.string ⟨(Lib.trimRightB s.data.toList c).toArray⟩) ∧ w' = w := Any.strings_TrimRight_one Tryd.lays162 s c hc w hs
def Tryd.lays128_ren : Go.Shelf.Ren := ⟨fun | 128 => 61 | n => n, fun | 51 => 58 | 3 => 3 | 4 => 4 | 46 => 31 | 5 => 5 | 9 => 9 | n => n, fun | n => n⟩
theorem Tryd.lays128 : Go.Proofs.Lays.n128 Tryd.prog Tryd.lays128_ren := {
  mixed := by kernel_rfl
  f128 := Tryd.func61.trans (congrArg some (by kernel_rfl))
  t3 := Tryd.underlying3
  a3 := Tryd.isAgg3
  z3 := Tryd.sizeOf3
  v3 := Tryd.zeroValue3
  t4 := Tryd.underlying4
  a4 := Tryd.isAgg4
  z4 := Tryd.sizeOf4
  v4 := Tryd.zeroValue4
  t5 := Tryd.underlying5
  a5 := Tryd.isAgg5
  z5 := Tryd.sizeOf5
  v5 := Tryd.zeroValue5
  t9 := Tryd.underlying9
  a9 := Tryd.isAgg9
  z9 := Tryd.sizeOf9
  v9 := Tryd.zeroValue9
  t46 := Tryd.underlying31
  a46 := Tryd.isAgg31
  z46 := Tryd.sizeOf31
  v46 := Tryd.zeroValue31
  t51 := Tryd.underlying58
  a51 := Tryd.isAgg58
  z51 := Tryd.sizeOf58
  v51 := Tryd.zeroValue58 }
/-- bits.Len32: "Len32 returns the minimum number of bits required to represent x; the result is 0 for x == 0.": IT RETURNS 'Lib.bitLen x'; the world is as it was. ('h0', 'h1': x is a uint32.) (LAID: no walk: one application.) -/
theorem Tryd.bits_Len32 (x : Int) (w : World) (h0 : 0 ≤ x) (h1 : x ≤ 4294967295) :
    Calls Tryd.prog 61 #[.int .u32 x] w fun e w' => e = .returned (.int .i64 (Lib.bitLen x.toNat)) ∧ w' = w := Any.bits_Len32 Tryd.lays128 x w h0 h1
def Tryd.lays283_ren : Go.Shelf.Ren := ⟨fun | 283 => 82 | n => n, fun | 3 => 3 | 9 => 9 | 4 => 4 | n => n, fun | n => n⟩
theorem Tryd.lays283 : Go.Proofs.Lays.n283 Tryd.prog Tryd.lays283_ren := {
  mixed := by kernel_rfl
  f283 := Tryd.func82.trans (congrArg some (by kernel_rfl))
  t3 := Tryd.underlying3
  a3 := Tryd.isAgg3
  z3 := Tryd.sizeOf3
  v3 := Tryd.zeroValue3
  t4 := Tryd.underlying4
  a4 := Tryd.isAgg4
  z4 := Tryd.sizeOf4
  v4 := Tryd.zeroValue4
  t9 := Tryd.underlying9
  a9 := Tryd.isAgg9
  z9 := Tryd.sizeOf9
  v9 := Tryd.zeroValue9 }
open Go.Lib in
/-- internal/strconv.small: "small returns the string for an i with 0 <= i < nSmalls.": i's decimal numeral. The world is as it was. (LAID: no walk: one application.) -/
theorem Tryd.internal_strconv_small (i : Nat) (h : i < 100) (w : World) :
    Calls Tryd.prog 82 #[.int .i64 i] w fun e w' => e = .returned (.string ⟨(Lib.decDigits i).toArray⟩) ∧ w' = w := Any.internal_strconv_small Tryd.lays283 i h w
def Tryd.laysM284_ren : Go.Shelf.Ren := ⟨fun | 284 => 83 | 129 => 90 | 317 => 89 | 318 => 91 | n => n, fun | 53 => 23 | 3 => 3 | 212 => 104 | 0 => 0 | 4 => 4 | 46 => 31 | 5 => 5 | 9 => 9 | n => n, fun | 17 => 0 | n => n⟩
theorem Tryd.laysM284 : Go.Proofs.LaysM.n284 Tryd.prog Tryd.laysM284_ren := {
  mixed := by kernel_rfl
  f129 := Tryd.func90.trans (congrArg some (by kernel_rfl))
  f284 := Tryd.func83.trans (congrArg some (by kernel_rfl))
  f317 := Tryd.func89.trans (congrArg some (by kernel_rfl))
  f318 := Tryd.func91.trans (congrArg some (by kernel_rfl))
  t0 := Tryd.underlying0
  a0 := Tryd.isAgg0
  z0 := Tryd.sizeOf0
  v0 := Tryd.zeroValue0
  t3 := Tryd.underlying3
  a3 := Tryd.isAgg3
  z3 := Tryd.sizeOf3
  v3 := Tryd.zeroValue3
  t4 := Tryd.underlying4
  a4 := Tryd.isAgg4
  z4 := Tryd.sizeOf4
  v4 := Tryd.zeroValue4
  t5 := Tryd.underlying5
  a5 := Tryd.isAgg5
  z5 := Tryd.sizeOf5
  v5 := Tryd.zeroValue5
  t9 := Tryd.underlying9
  a9 := Tryd.isAgg9
  z9 := Tryd.sizeOf9
  v9 := Tryd.zeroValue9
  t46 := Tryd.underlying31
  a46 := Tryd.isAgg31
  z46 := Tryd.sizeOf31
  v46 := Tryd.zeroValue31
  t53 := Tryd.underlying23
  a53 := Tryd.isAgg23
  z53 := Tryd.sizeOf23
  v53 := Tryd.zeroValue23
  t212 := Tryd.underlying104
  a212 := Tryd.isAgg104
  z212 := Tryd.sizeOf104
  v212 := Tryd.zeroValue104
  g17 := by kernel_rfl
  i0 := by kernel_rfl
  i3 := by kernel_rfl
  i4 := by kernel_rfl
  i5 := by kernel_rfl
  i9 := by kernel_rfl
  i46 := by kernel_rfl
  i53 := by kernel_rfl
  i212 := by kernel_rfl
  m17 := by kernel_rfl }
open Go.Lib in
/-- internal/strconv.numDigits, at a d that is not 0: THE NUMBER OF d's DECIMAL DIGITS. The world is as it was. (LAID: no walk: one application.) -/
theorem Tryd.internal_strconv_numDigits (u : Nat) (h1 : 1 ≤ u) (h2 : u < 18446744073709551616) (w : World) (htab : Lib.TabIs Tryd.prog w "internal/strconv.uint64pow10" .u64 Lib.pow10Tab) :
    Calls Tryd.prog 83 #[.int .u64 u] w fun e w' => e = .returned (.int .i64 (Lib.nDigits u)) ∧ w' = w := Any.internal_strconv_numDigits Tryd.laysM284 u h1 h2 w htab
def Tryd.lays285_ren : Go.Shelf.Ren := ⟨fun | 285 => 84 | n => n, fun | 37 => 55 | 53 => 23 | 3 => 3 | 4 => 4 | 51 => 58 | 9 => 9 | 5 => 5 | 0 => 0 | n => n, fun | n => n⟩
theorem Tryd.lays285 : Go.Proofs.Lays.n285 Tryd.prog Tryd.lays285_ren := {
  mixed := by kernel_rfl
  f285 := Tryd.func84.trans (congrArg some (by kernel_rfl))
  t0 := Tryd.underlying0
  a0 := Tryd.isAgg0
  z0 := Tryd.sizeOf0
  v0 := Tryd.zeroValue0
  t3 := Tryd.underlying3
  a3 := Tryd.isAgg3
  z3 := Tryd.sizeOf3
  v3 := Tryd.zeroValue3
  t4 := Tryd.underlying4
  a4 := Tryd.isAgg4
  z4 := Tryd.sizeOf4
  v4 := Tryd.zeroValue4
  t5 := Tryd.underlying5
  a5 := Tryd.isAgg5
  z5 := Tryd.sizeOf5
  v5 := Tryd.zeroValue5
  t9 := Tryd.underlying9
  a9 := Tryd.isAgg9
  z9 := Tryd.sizeOf9
  v9 := Tryd.zeroValue9
  t37 := Tryd.underlying55
  a37 := Tryd.isAgg55
  z37 := Tryd.sizeOf55
  v37 := Tryd.zeroValue55
  t51 := Tryd.underlying58
  a51 := Tryd.isAgg58
  z51 := Tryd.sizeOf58
  v51 := Tryd.zeroValue58
  t53 := Tryd.underlying23
  a53 := Tryd.isAgg23
  z53 := Tryd.sizeOf23
  v53 := Tryd.zeroValue23 }
open Go.RowKit Go.Sort Go.Lib in
/-- internal/strconv.formatBase10: "formatBase10 formats the decimal representation of u into a. The caller is responsible for ensuring that a is big enough to hold u. If a is too big, leading zeros will be filled in as needed.": THE ROW HOLDS u's DIGITS ('FmtInv .. 0 ..': every place t holds 'dg u (len - 1 - t)'); all else is as it was but for the count of draws. (LAID: no walk: one application.) -/
theorem Tryd.internal_strconv_formatBase10 (blk off cap : Nat) (u : Nat) (d : Array UInt8) (w : World) (hH : Holds (fun (b : UInt8) => Value.int .u8 (b.toNat : Int)) w blk off d) (hu : u < 10 ^ d.size) (hu64 : u < 18446744073709551616) (hsz : d.size < 4611686018427387904) :
    Calls Tryd.prog 84 #[.slice (some ⟨blk, off, none⟩) d.size cap, .int .u64 u] w fun e w' =>
      e = .returned (.tuple #[]) ∧ ∃ (n v' : Nat) (dk : Array UInt8), w' = (putRow (fun (b : UInt8) => Value.int .u8 (b.toNat : Int)) w blk off dk).drewN n ∧ FmtInv d.size u 0 v' dk := Any.internal_strconv_formatBase10 Tryd.lays285 blk off cap u d w hH hu hu64 hsz
def Tryd.laysM171_ren : Go.Shelf.Ren := ⟨fun | 171 => 39 | 243 => 68 | 246 => 79 | 283 => 82 | 284 => 83 | 285 => 84 | 286 => 85 | 129 => 90 | 317 => 89 | 318 => 91 | 319 => 92 | 320 => 93 | 337 => 98 | 338 => 99 | n => n, fun | 3 => 3 | 9 => 9 | 2 => 2 | 4 => 4 | 171 => 96 | 0 => 0 | 53 => 23 | 37 => 55 | 5 => 5 | 173 => 99 | 212 => 104 | 51 => 58 | 20 => 20 | 213 => 105 | 46 => 31 | 232 => 115 | 233 => 116 | n => n, fun | 17 => 0 | 18 => 4 | 19 => 5 | n => n⟩
theorem Tryd.laysM171 : Go.Proofs.LaysM.n171 Tryd.prog Tryd.laysM171_ren := {
  mixed := by kernel_rfl
  f129 := Tryd.func90.trans (congrArg some (by kernel_rfl))
  f171 := Tryd.func39.trans (congrArg some (by kernel_rfl))
  f243 := Tryd.func68.trans (congrArg some (by kernel_rfl))
  f246 := Tryd.func79.trans (congrArg some (by kernel_rfl))
  f283 := Tryd.func82.trans (congrArg some (by kernel_rfl))
  f284 := Tryd.func83.trans (congrArg some (by kernel_rfl))
  f285 := Tryd.func84.trans (congrArg some (by kernel_rfl))
  f286 := Tryd.func85.trans (congrArg some (by kernel_rfl))
  f317 := Tryd.func89.trans (congrArg some (by kernel_rfl))
  f318 := Tryd.func91.trans (congrArg some (by kernel_rfl))
  f319 := Tryd.func92.trans (congrArg some (by kernel_rfl))
  f320 := Tryd.func93.trans (congrArg some (by kernel_rfl))
  f337 := Tryd.func98.trans (congrArg some (by kernel_rfl))
  f338 := Tryd.func99.trans (congrArg some (by kernel_rfl))
  t0 := Tryd.underlying0
  a0 := Tryd.isAgg0
  z0 := Tryd.sizeOf0
  v0 := Tryd.zeroValue0
  t2 := Tryd.underlying2
  a2 := Tryd.isAgg2
  z2 := Tryd.sizeOf2
  v2 := Tryd.zeroValue2
  t3 := Tryd.underlying3
  a3 := Tryd.isAgg3
  z3 := Tryd.sizeOf3
  v3 := Tryd.zeroValue3
  t4 := Tryd.underlying4
  a4 := Tryd.isAgg4
  z4 := Tryd.sizeOf4
  v4 := Tryd.zeroValue4
  t5 := Tryd.underlying5
  a5 := Tryd.isAgg5
  z5 := Tryd.sizeOf5
  v5 := Tryd.zeroValue5
  t9 := Tryd.underlying9
  a9 := Tryd.isAgg9
  z9 := Tryd.sizeOf9
  v9 := Tryd.zeroValue9
  t20 := Tryd.underlying20
  a20 := Tryd.isAgg20
  z20 := Tryd.sizeOf20
  v20 := Tryd.zeroValue20
  t37 := Tryd.underlying55
  a37 := Tryd.isAgg55
  z37 := Tryd.sizeOf55
  v37 := Tryd.zeroValue55
  t46 := Tryd.underlying31
  a46 := Tryd.isAgg31
  z46 := Tryd.sizeOf31
  v46 := Tryd.zeroValue31
  t51 := Tryd.underlying58
  a51 := Tryd.isAgg58
  z51 := Tryd.sizeOf58
  v51 := Tryd.zeroValue58
  t53 := Tryd.underlying23
  a53 := Tryd.isAgg23
  z53 := Tryd.sizeOf23
  v53 := Tryd.zeroValue23
  t171 := Tryd.underlying96
  a171 := Tryd.isAgg96
  z171 := Tryd.sizeOf96
  v171 := Tryd.zeroValue96
  t173 := Tryd.underlying99
  a173 := Tryd.isAgg99
  z173 := Tryd.sizeOf99
  v173 := Tryd.zeroValue99
  t212 := Tryd.underlying104
  a212 := Tryd.isAgg104
  z212 := Tryd.sizeOf104
  v212 := Tryd.zeroValue104
  t213 := Tryd.underlying105
  a213 := Tryd.isAgg105
  z213 := Tryd.sizeOf105
  t232 := Tryd.underlying115
  a232 := Tryd.isAgg115
  z232 := Tryd.sizeOf115
  v232 := Tryd.zeroValue115
  t233 := Tryd.underlying116
  a233 := Tryd.isAgg116
  z233 := Tryd.sizeOf116
  v233 := Tryd.zeroValue116
  g17 := by kernel_rfl
  g18 := by kernel_rfl
  g19 := by kernel_rfl
  i0 := by kernel_rfl
  i2 := by kernel_rfl
  i3 := by kernel_rfl
  i4 := by kernel_rfl
  i5 := by kernel_rfl
  i9 := by kernel_rfl
  i20 := by kernel_rfl
  i37 := by kernel_rfl
  i46 := by kernel_rfl
  i51 := by kernel_rfl
  i53 := by kernel_rfl
  i171 := by kernel_rfl
  i173 := by kernel_rfl
  i212 := by kernel_rfl
  i232 := by kernel_rfl
  i233 := by kernel_rfl
  m17 := by kernel_rfl
  m18 := by kernel_rfl
  m19 := by kernel_rfl }
open Go.RowKit Go.Sort Go.Lib in
/-- strconv.Itoa: "Itoa is equivalent to FormatInt(int64(i), 10).": i's DECIMAL NUMERAL ('Lib.itoa': a '-' where i is negative, then the digits), FOR EVERY int. The world behind the call: the world before it, new blocks behind the heap (the library's 'var a [24]byte'), draws. (LAID: no walk: one application.) -/
theorem Tryd.strconv_Itoa (n : Int) (h0 : -9223372036854775808 ≤ n) (h1 : n ≤ 9223372036854775807) (w : World) (htab : Lib.TabIs Tryd.prog w "internal/strconv.uint64pow10" .u64 Lib.pow10Tab) :
    Calls Tryd.prog 39 #[.int .i64 n] w fun e w' => e = .returned (.string ⟨(Lib.itoa n).toArray⟩) ∧ ∃ k os, w' = grow (w.drewN k) os := Any.strconv_Itoa Tryd.laysM171 n h0 h1 w htab
end Go.Proofs
namespace Go.Proofs
open Go.Shelf Go.RowKit Go.Sort Go.Lib
set_option maxRecDepth 100000 in
theorem Tryd.internal_FormatUint_10 (u : Nat) (hu64 : u < 18446744073709551616) (w : World)
    (htab : Lib.TabIs Tryd.prog w "internal/strconv.uint64pow10" .u64 Lib.pow10Tab) :
    Calls Tryd.prog 75 #[.int .u64 u, .int .i64 10] w fun e w' => e = .returned (.string ⟨(Lib.decDigits u).toArray⟩) ∧ ∃ k os, w' = grow (w.drewN k) os := by
  by_cases hs : u < 100
  · have h100 : (u : Int) < 100 := by omega
    have hw : IntKind.i64.wrap (u : Int) = (u : Int) := by rw [IntKind.wrap_i64]; omega
    go_enter Tryd.func75, Tryd.ntmps75
    go_wp2_with (go_at_call 82; refine (Tryd.internal_strconv_small u hs _).mono ?_; rintro e w' ⟨rfl, rfl⟩)
    go_ret
    refine ⟨rfl, 0, #[], by simp [World.drewN_zero]⟩
  · have h100 : ¬ (u : Int) < 100 := by omega
    have hu1 : 1 ≤ u := by omega
    have hnd20 : Lib.nDigits u ≤ 20 := by have := Lib.numDigits_eq u hu1 hu64; split at this <;> omega
    have hb3 : Lib.nDigits u ≤ 24 := by omega
    have hal : Tryd.prog.arrayLen 96 = 24 := by simp [Program.arrayLen, Tryd.underlying96]
    have hsl1 : ∀ W, (Instr.sliceAt 96 (.pointer (some ⟨w.heap.size, 0, none⟩)) none (some (.int .i64 (Lib.nDigits u : Int))) none).run Tryd.prog W = .ok (.slice (some ⟨w.heap.size, 0, none⟩) (Lib.nDigits u) 24) W := fun W => by
      rw [run_sliceAt_array_h W 96 ⟨w.heap.size, 0, none⟩ (by simp [Program.arrayLen, Program.elem, Tryd.underlying96]) .i64 (Lib.nDigits u : Int) (by omega) (by rw [hal]; omega)]
      go_simp
    have hH0 := Lib.holds_zero0 w 96 (Lib.nDigits u) (by omega)
    have hfmt := Tryd.internal_strconv_formatBase10 w.heap.size 0 24 u (Array.replicate (Lib.nDigits u) 0) (w.alloc (.cells Lib.zeros24 96)) hH0 (by rw [Array.size_replicate]; exact Lib.lt_pow_nDigits u) hu64 (by rw [Array.size_replicate]; omega)
    rw [Array.size_replicate] at hfmt
    have HH0 := Lib.hid hH0
    clear hH0 hal
    go_enter Tryd.func75, Tryd.ntmps75
    go_wp2_with (go_at_call 83; refine (Tryd.internal_strconv_numDigits u hu1 hu64 _ (Lib.tabIs_alloc htab _)).mono ?_; rintro e w' ⟨rfl, rfl⟩)
    go_at_call 84
    refine hfmt.mono ?_
    rintro e w' ⟨rfl, k, v', dk, rfl, hF⟩
    have hcv : (convert 55 9 (.slice (some ⟨w.heap.size, 0, none⟩) (Lib.nDigits u) 24)).run Tryd.prog ((putRow (fun (b : UInt8) => Value.int .u8 (b.toNat : Int)) (w.alloc (.cells Lib.zeros24 96)) w.heap.size 0 dk).drewN k) = .ok (.string ⟨(Lib.decDigits u).toArray⟩) ((putRow (fun (b : UInt8) => Value.int .u8 (b.toNat : Int)) (w.alloc (.cells Lib.zeros24 96)) w.heap.size 0 dk).drewN k) := by
      have h := run_convert_bytes_back (P := Tryd.prog) ((putRow (fun (b : UInt8) => Value.int .u8 (b.toNat : Int)) (w.alloc (.cells Lib.zeros24 96)) w.heap.size 0 dk).drewN k) 55 9 5 ⟨w.heap.size, 0, none⟩ 24 (Lib.decDigits u) Tryd.underlying55 Tryd.underlying5 Tryd.underlying9 (fun j hj => by
        rw [Lib.row_is_numeral hF j hj, Lib.add_plain, World.cell?_drewN]
        exact cell?_putRow (fun (b : UInt8) => Value.int .u8 (b.toNat : Int)) _ w.heap.size 0 _ dk HH0.out (by rw [hF.size, Array.size_replicate]) j (by rw [hF.size]; rw [Lib.decDigits_length] at hj; exact hj))
      rw [Lib.decDigits_length] at h
      exact h
    go_wp2
    go_ret
    refine ⟨rfl, k, ?_⟩
    rw [alloc_eq_grow]
    obtain ⟨os', _, e⟩ := putRow_grow_new (fun (b : UInt8) => Value.int .u8 (b.toNat : Int)) w #[.cells Lib.zeros24 96] w.heap.size 0 dk (Nat.le_refl _)
    exact ⟨os', by rw [e]; rfl⟩
/-- FormatUint. -/
theorem Tryd.strconv_FormatUint_10 (u : Nat) (hu64 : u < 18446744073709551616) (w : World)
    (htab : Lib.TabIs Tryd.prog w "internal/strconv.uint64pow10" .u64 Lib.pow10Tab) :
    Calls Tryd.prog 63 #[.int .u64 u, .int .i64 10] w fun e w' => e = .returned (.string ⟨(Lib.decDigits u).toArray⟩) ∧ ∃ k os, w' = grow (w.drewN k) os := by
  go_enter Tryd.func63, Tryd.ntmps63
  go_wp2_with (go_at_call 75; refine (Tryd.internal_FormatUint_10 u hu64 _ htab).mono ?_; rintro e w' ⟨rfl, k, os, rfl⟩)
  go_ret
  exact ⟨rfl, k, os, rfl⟩
end Go.Proofs
namespace Go.Dn.Dec
open Go.Proofs Go.RowKit Go.Sort
set_option maxRecDepth 100000
theorem mixed : Tryd.prog.follows .mixedOrders = true := by kernel_rfl
theorem names : (Tryd.prog.funcs.toList.all fun f => f.name != "runtime.NumGoroutine") = true := by kernel_rfl
theorem hname (k : Nat) (fn : Func) (h : Tryd.prog.funcs[k]? = some fn) : fn.name ≠ "runtime.NumGoroutine" := by
  have h1 : fn ∈ Tryd.prog.funcs.toList := by rw [← Array.getElem?_toList] at h; exact List.mem_of_getElem? h
  have := List.all_eq_true.1 names fn h1
  simpa using this
theorem vs_one {G : Sg} {x : V} {vs : Array Value} (hr : RVs G [x] vs.toList) : ∃ v, vs = #[v] ∧ RV G x v := by
  obtain ⟨v, hv, hx⟩ := RVs.get hr (i := 0) rfl
  have hl := RVs.length hr
  refine ⟨v, ?_, hx⟩
  apply Array.ext'
  match hvs : vs.toList, hl, hv with
  | [y], _, hv => simp at hv; subst hv; rfl
theorem vs_two {G : Sg} {x y : V} {vs : Array Value} (hr : RVs G [x, y] vs.toList) : ∃ v u, vs = #[v, u] ∧ RV G x v ∧ RV G y u := by
  obtain ⟨v, hv, hx⟩ := RVs.get hr (i := 0) rfl
  obtain ⟨u, hu, hy⟩ := RVs.get hr (i := 1) rfl
  have hl := RVs.length hr
  refine ⟨v, u, ?_, hx, hy⟩
  apply Array.ext'
  match hvs : vs.toList, hl, hv, hu with
  | [a, b], _, hv, hu => simp at hv hu; subst hv; subst hu; rfl
theorem below_grow (w : World) (k : Nat) (os : Array Obj) : Below w.heap.size w (grow (w.drewN k) os) :=
  ⟨rfl, rfl, rfl, by simp [grow, World.drewN], fun i hi => heap_grow_old _ _ (by simpa using hi)⟩
/-- A call that answers data and leaves all that stands alone. -/
theorem good_data {k : Nat} {args : List V} {S : List Ob} {x : D} {v : Value} {fn : Func} (hf : Tryd.prog.funcs[k]? = some fn) (hb : fn.body.isSome = true) (hx : ∀ F, RD F x v)
    (h : ∀ w G vs, Inv w G S → RVs G args vs.toList → Calls Tryd.prog k vs w fun e w' => e = .returned v ∧ (w' = w ∨ ∃ n os, w' = grow (w.drewN n) os)) : GoodCall Tryd.prog k args S (.d x, S) := by
  refine GoodCall.of_below fun w G vs hI hr => ?_
  refine Answers.of_calls hf hb (hname k fn hf) ((h w G vs hI hr).mono ?_)
  rintro e w' ⟨rfl, hw⟩
  refine ⟨v, rfl, ?_, by simp only [RV]; exact hx _⟩
  rcases hw with rfl | ⟨n, os, rfl⟩
  · exact Below.refl _ _
  · exact below_grow _ _ _
theorem tab_is {w : World} {G : Sg} {S : List Ob} (hI : Inv w G S) : Lib.TabIs Tryd.prog w "internal/strconv.uint64pow10" .u64 Lib.pow10Tab := by
  obtain ⟨⟨x, y, e⟩, _⟩ := hI.tb 0 _ rfl
  have hg : Tryd.prog.globalNamed "internal/strconv.uint64pow10" = some 0 := by kernel_rfl
  unfold Lib.TabIs World.var?
  rw [hg]
  simp only [Option.bind_some, e]
theorem decDigits_eq (n : Nat) : Lib.decDigits n = decN n := by
  induction n using Nat.strongRecOn with
  | ind n ih =>
    rw [Lib.decDigits, decN_eq]
    split
    · rfl
    · rw [ih _ (by omega)]
theorem itoa_eq (n : Int) : Lib.itoa n = decI n := by
  unfold Lib.itoa decI
  split <;> rw [decDigits_eq]
theorem bitLen_eq (n : Nat) (h : n < 4294967296) : Lib.bitLen n = blen n := by
  by_cases h0 : n = 0
  · subst h0; rfl
  · obtain ⟨a, b, c⟩ := Lib.bitLenAux_bounds 64 n (by omega) h0
    have hb : Lib.bitLen n = Lib.bitLenAux 64 n := rfl
    rw [hb]
    have := blen_eq (n := n) (k := Lib.bitLenAux 64 n - 1) b (by rw [Nat.sub_add_cancel a]; exact c)
    omega
theorem trimRight_good {args : List V} {S : List Ob} {o : Out} (h : trimRightExt args S = some o) : GoodCall Tryd.prog 38 args S o := by
  unfold trimRightExt at h
  split at h
  · rename_i x c
    split at h
    · rename_i hc
      injection h with h; subst h
      refine good_data (v := .string ⟨(Lib.trimRightB x c).toArray⟩) Tryd.func38 (by kernel_rfl) (fun F => by simp only [RD]; rfl) fun w G vs hI hr => ?_
      obtain ⟨v, u, rfl, h1, h2⟩ := vs_two hr
      simp only [RV, RD] at h1 h2
      subst h1; subst h2
      have hs : (⟨x.toArray⟩ : ByteArray).size ≤ 9223372036854775807 := by
        show x.toArray.size ≤ _
        simp; omega
      exact (Tryd.strings_TrimRight_one ⟨x.toArray⟩ c hc.1 w hs).mono fun e w' h => ⟨h.1, .inl h.2⟩
    · cases h
  · cases h
theorem trimLeft_good {args : List V} {S : List Ob} {o : Out} (h : trimLeftExt args S = some o) : GoodCall Tryd.prog 49 args S o := by
  unfold trimLeftExt at h
  split at h
  · rename_i x c
    split at h
    · rename_i hc
      injection h with h; subst h
      refine good_data (v := .string ⟨(Lib.trimLeftB x c).toArray⟩) Tryd.func49 (by kernel_rfl) (fun F => by simp only [RD]; rfl) fun w G vs hI hr => ?_
      obtain ⟨v, u, rfl, h1, h2⟩ := vs_two hr
      simp only [RV, RD] at h1 h2
      subst h1; subst h2
      exact (Tryd.strings_TrimLeft_one ⟨x.toArray⟩ c hc w).mono fun e w' h => ⟨h.1, .inl h.2⟩
    · cases h
  · cases h
theorem itoa_good {args : List V} {S : List Ob} {o : Out} (h : itoaExt args S = some o) : GoodCall Tryd.prog 39 args S o := by
  unfold itoaExt at h
  split at h
  · rename_i n
    split at h
    · rename_i hc
      injection h with h; subst h
      refine good_data (v := .string ⟨(Lib.itoa n).toArray⟩) Tryd.func39 (by kernel_rfl) (fun F => by simp only [RD]; rw [itoa_eq]) fun w G vs hI hr => ?_
      obtain ⟨v, rfl, h1⟩ := vs_one hr
      simp only [RV, RD] at h1
      subst h1
      exact (Tryd.strconv_Itoa n (by omega) (by omega) w (tab_is hI)).mono fun e w' h => ⟨h.1, .inr h.2⟩
    · cases h
  · cases h
theorem fmtUint_good {args : List V} {S : List Ob} {o : Out} (h : fmtUintExt args S = some o) : GoodCall Tryd.prog 63 args S o := by
  unfold fmtUintExt at h
  split at h
  · rename_i n b
    split at h
    · rename_i hc
      injection h with h; subst h
      obtain ⟨rfl, hc1, hc2⟩ := hc
      refine good_data (v := .string ⟨(Lib.decDigits n.toNat).toArray⟩) Tryd.func63 (by kernel_rfl) (fun F => by simp only [RD]; rw [decDigits_eq]) fun w G vs hI hr => ?_
      obtain ⟨v, u, rfl, h1, h2⟩ := vs_two hr
      simp only [RV, RD] at h1 h2
      subst h1; subst h2
      have e : n = ((n.toNat : Nat) : Int) := by omega
      have := Tryd.strconv_FormatUint_10 n.toNat (by omega) w (tab_is hI)
      rw [← e] at this
      exact this.mono fun e w' h => ⟨h.1, .inr h.2⟩
    · cases h
  · cases h
theorem len32_good {args : List V} {S : List Ob} {o : Out} (h : len32Ext args S = some o) : GoodCall Tryd.prog 61 args S o := by
  unfold len32Ext at h
  split at h
  · rename_i n
    split at h
    · rename_i hc
      injection h with h; subst h
      refine good_data (v := .int .i64 (Lib.bitLen n.toNat)) Tryd.func61 (by kernel_rfl) (fun F => by simp only [RD]; rw [bitLen_eq _ (by omega)]) fun w G vs hI hr => ?_
      obtain ⟨v, rfl, h1⟩ := vs_one hr
      simp only [RV, RD] at h1
      subst h1
      exact (Tryd.bits_Len32 n w (by omega) (by omega)).mono fun e w' h => ⟨h.1, .inl h.2⟩
    · cases h
  · cases h
/-! ### big.Sub -/
theorem unInts_of {xs : List D} {a : List Int} (h : unInts .u32 xs = some a) : xs = ints .u32 a := by
  induction xs generalizing a with
  | nil => simp [unInts] at h; subst h; rfl
  | cons x xs ih =>
    cases x <;> simp only [unInts] at h <;> try (cases h)
    rename_i j n
    split at h
    · rename_i e; subst e
      obtain ⟨l, hl, rfl⟩ := Option.map_eq_some_iff.1 h
      rw [ih hl]; rfl
    · cases h
theorem unCells_of {xs : List V} {a : List Int} (h : unCellsU xs = some a) : xs = cellsOf a := by
  induction xs generalizing a with
  | nil => simp [unCellsU] at h; subst h; rfl
  | cons x xs ih =>
    unfold unCellsU at h
    split at h
    · rename_i e; cases e
    · rename_i e; injection e with e1 e2; subst e1; subst e2
      obtain ⟨l, hl, rfl⟩ := Option.map_eq_some_iff.1 h
      rw [ih hl]; rfl
    · cases h
theorem okU_u {a : List Int} (h : okU a = true) : U32 a ∧ a.length ≤ 100000 := by
  simp only [okU, Bool.and_eq_true, decide_eq_true_eq, List.all_eq_true] at h
  exact ⟨fun z hz => by have := h.1 z hz; exact this, h.2⟩
theorem extA : ExtOk Tryd.prog polA := by
  intro k g hg; simp [polA] at hg
theorem extC : ExtOk Tryd.prog polC := by
  intro k g hg; simp [polC] at hg
theorem cutS_good {args : List V} {S : List Ob} {o : Out} (h : cutExtS args S = some o) : GoodCall Tryd.prog 51 args S o := by
  unfold cutExtS at h
  split at h
  · rename_i b xs
    split at h
    · rename_i a ha
      split at h
      · rename_i hok
        injection h with h; subst h
        obtain ⟨hu, hl⟩ := okU_u hok
        rw [unInts_of ha]
        have := cutC_run b a hu (by omega)
        exact run_good mixed extC hname (rk_run (by rw [this]; simp [cellsU, cellsOf, ints]))
      · cases h
    · cases h
  · rename_i n cs
    split at h
    · rename_i a ha
      split at h
      · rename_i hok
        injection h with h; subst h
        obtain ⟨rfl, hok⟩ := hok
        obtain ⟨hu, hl⟩ := okU_u hok
        rw [unCells_of ha]
        exact run_good mixed extA hname (rk_run (cutA_run a hu (by omega)))
      · cases h
    · cases h
  · cases h
theorem cmpS_good {args : List V} {S : List Ob} {o : Out} (h : cmpExtS args S = some o) : GoodCall Tryd.prog 62 args S o := by
  unfold cmpExtS at h
  split at h
  · rename_i n m ds cs
    split at h
    · rename_i a b ha hb
      split at h
      · rename_i hok
        injection h with h; subst h
        obtain ⟨rfl, rfl, hok1, hok2⟩ := hok
        obtain ⟨hu1, hl1⟩ := okU_u hok1
        obtain ⟨hu2, hl2⟩ := okU_u hok2
        rw [unCells_of ha, unCells_of hb]
        exact run_good mixed extA hname (rk_run (cmpA_run a b hu1 hu2 hl1 hl2))
      · cases h
    · cases h
  · cases h
theorem extS_ok : ExtOk Tryd.prog polS := by
  intro k g hg args S o ho
  simp only [polS, extS] at hg
  split at hg
  · injection hg with hg; subst hg; exact cutS_good ho
  · injection hg with hg; subst hg; exact cmpS_good ho
  · cases hg
theorem sub_good {args : List V} {S : List Ob} {o : Out} (h : subExt args S = some o) : GoodCall Tryd.prog 81 args S o := by
  unfold subExt at h
  split at h
  · rename_i b xs c ys
    split at h
    · rename_i a e ha he
      split at h
      · rename_i hok
        injection h with h; subst h
        obtain ⟨h1, h2, h3, h4⟩ := hok
        have u1 : U32 a := fun z hz => by have := List.all_eq_true.1 h1 z hz; simpa using this
        have u2 : U32 e := fun z hz => by have := List.all_eq_true.1 h2 z hz; simpa using this
        rw [unInts_of ha, unInts_of he]
        exact run_good mixed extS_ok hname (rk_run (sub_run b c a e u1 u2 h3 h4))
      · cases h
    · cases h
  · cases h
theorem extOk : ExtOk Tryd.prog pol := by
  intro k g hg args S o ho
  simp only [pol, ext] at hg
  split at hg
  · injection hg with hg; subst hg; exact trimRight_good ho
  · injection hg with hg; subst hg; exact trimLeft_good ho
  · injection hg with hg; subst hg; exact itoa_good ho
  · injection hg with hg; subst hg; exact fmtUint_good ho
  · injection hg with hg; subst hg; exact len32_good ho
  · injection hg with hg; subst hg; exact sub_good ho
  · cases hg
end Go.Dn.Dec
namespace Go.Dn.Dec
open Go.Proofs Go.Proofs.YtdilnnjabjpocaaDoor Go.RowKit
set_option maxRecDepth 100000
def laid5 : List (String × DataW Unit) := [("math/bits.deBruijn32tab", Rows.laid_math_bits_deBruijn32tab), ("math/bits.deBruijn64tab", Rows.laid_math_bits_deBruijn64tab), ("internal/strconv.uint64pow10", Rows.laid_internal_strconv_uint64pow10), ("unicode/utf8.acceptRanges", Rows.laid_unicode_utf8_acceptRanges), ("unicode/utf8.first", Rows.laid_unicode_utf8_first)]
theorem pow10_eq : (Rows.laid_internal_strconv_uint64pow10 : DataW Unit) = Lib.tabData .u64 Lib.pow10Tab := by kernel_rfl
theorem tabs_of {W : World} (h : laidMetH Tryd.prog laid5 W) : TabsIn W := by
  rw [MakeChecks.laidMetH_plain _ _ _ (by kernel_rfl)] at h
  have h3 := h.tail.tail
  rw [pow10_eq] at h3
  have ht : Lib.TabIs Tryd.prog W "internal/strconv.uint64pow10" .u64 Lib.pow10Tab :=
    Lib.tabIs_of_head (g := 0) (t := 104) (e := 23) (n := 20) (by kernel_rfl) (by kernel_rfl) Tryd.underlying104 Tryd.underlying23 (by kernel_rfl) (by kernel_rfl) h3
  intro b arr hb
  unfold theTab at hb
  split at hb
  · rename_i e; subst e
    injection hb with hb; subst hb
    have hg : Tryd.prog.globalNamed "internal/strconv.uint64pow10" = some 0 := by kernel_rfl
    unfold Lib.TabIs World.var? at ht
    rw [hg] at ht
    simp only [Option.bind_some] at ht
    split at ht
    · rename_i cs x y hc
      injection ht with ht; subst ht
      exact ⟨x, y, hc⟩
    · cases ht
  · cases hb
end Go.Dn.Dec
