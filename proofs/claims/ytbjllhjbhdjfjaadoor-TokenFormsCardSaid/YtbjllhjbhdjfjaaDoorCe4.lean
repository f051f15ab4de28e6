/- the token's functions. Printed by a program of mine. -/
import Derived.Test.YtbjllhjbhdjfjaaDoorCe1
import Derived.Test.YtbjllhjbhdjfjaaDoorDn4
import Derived.KernelRfl
namespace Go.Dn.Dec
open Go.Proofs
theorem t41 (n : Int) (s : List UInt8) (a : Int) (e : Int) (w : Int) (b : Bool) (l : List D) :
    rk Tryd.prog pol (Task.call 41 [V.p 0 0, V.d (D.i IntKind.i64 n)] [Ob.cells [V.d (D.s s), V.d (D.i IntKind.i64 a), V.d (D.i IntKind.i64 e), V.d (D.i IntKind.i64 w), V.d (D.l b l)] [(4, 5)]]) = interp (rk Tryd.prog pol) (
brB (decide (IntKind.i64.wrap (a + n) ≥ (↑s.length : Int)))
  (Tr.ret (V.d (D.i IntKind.u8 0), [Ob.cells [V.d (D.s s), V.d (D.i IntKind.i64 a), V.d (D.i IntKind.i64 e), V.d (D.i IntKind.i64 w), V.d (D.l b l)] [(4, 5)]]))
  (ob (getI s (IntKind.i64.wrap (a + n))) fun (c_0 : UInt8) =>
    Tr.ret (V.d (D.i IntKind.u8 (↑c_0.toNat : Int)), [Ob.cells [V.d (D.s s), V.d (D.i IntKind.i64 a), V.d (D.i IntKind.i64 e), V.d (D.i IntKind.i64 w), V.d (D.l b l)] [(4, 5)]]))) :=
  rk_of (by kernel_rfl)
theorem t42 (t : List UInt8) (s : List UInt8) (a : Int) (e : Int) (w : Int) (b : Bool) (l : List D) :
    rk Tryd.prog pol (Task.call 42 [V.p 0 0, V.d (D.s t)] [Ob.cells [V.d (D.s s), V.d (D.i IntKind.i64 a), V.d (D.i IntKind.i64 e), V.d (D.i IntKind.i64 w), V.d (D.l b l)] [(4, 5)]]) = interp (rk Tryd.prog pol) (
ift (decide (0 ≤ a ∧ a ≤ (↑s.length : Int)))
  (Tr.call (Task.call 56 [V.d (D.s (List.take (s.length - a.toNat) (List.drop a.toNat s))), V.d (D.s t)] []) fun (o_0 : Out) =>
    ift o_0.snd.isEmpty
      (asD o_0.fst fun (d_1 : D) =>
        asI IntKind.i64 d_1 fun (n_2 : Int) =>
          brB (decide (n_2 < 0)) (Tr.ret (V.d (D.b false), [Ob.cells [V.d (D.s s), V.d (D.i IntKind.i64 a), V.d (D.i IntKind.i64 e), V.d (D.i IntKind.i64 w), V.d (D.l b l)] [(4, 5)]]))
            (Tr.ret
              (V.d (D.b true),
                [Ob.cells [V.d (D.s s), V.d (D.i IntKind.i64 (IntKind.i64.wrap (a + IntKind.i64.wrap (n_2 + (↑t.length : Int))))), V.d (D.i IntKind.i64 e), V.d (D.i IntKind.i64 w), V.d (D.l b l)]
                    [(4, 5)]]))))) :=
  rk_of (by kernel_rfl)
theorem t43 (n : Int) (m : Int) (s : List UInt8) (a : Int) (e : Int) (w : Int) (b : Bool) (l : List D) :
    rk Tryd.prog pol (Task.call 43 [V.p 0 0, V.d (D.i IntKind.i64 n), V.d (D.i IntKind.i64 m)] [Ob.cells [V.d (D.s s), V.d (D.i IntKind.i64 a), V.d (D.i IntKind.i64 e), V.d (D.i IntKind.i64 w), V.d (D.l b l)] [(4, 5)]]) = interp (rk Tryd.prog pol) (
brB (e == 0) (Tr.ret (V.t [], [Ob.cells [V.d (D.s s), V.d (D.i IntKind.i64 a), V.d (D.i IntKind.i64 n), V.d (D.i IntKind.i64 m), V.d (D.l b l)] [(4, 5)]]))
  (Tr.ret (V.t [], [Ob.cells [V.d (D.s s), V.d (D.i IntKind.i64 a), V.d (D.i IntKind.i64 e), V.d (D.i IntKind.i64 w), V.d (D.l b l)] [(4, 5)]]))) :=
  rk_of (by kernel_rfl)
theorem t44 (c : Int) :
    rk Tryd.prog pol (Task.call 44 [V.d (D.i IntKind.u8 c)] []) = interp (rk Tryd.prog pol) (
brB (c == 95) (Tr.ret (V.d (D.b true), []))
  (brB (decide (c ≥ 97)) (brB (decide (c ≤ 122)) (Tr.ret (V.d (D.b true), [])) (brB (decide (c ≥ 65)) (Tr.ret (V.d (D.b (decide (c ≤ 90))), [])) (Tr.ret (V.d (D.b false), []))))
    (brB (decide (c ≥ 65)) (Tr.ret (V.d (D.b (decide (c ≤ 90))), [])) (Tr.ret (V.d (D.b false), []))))) :=
  rk_of (by kernel_rfl)
theorem t46 (c : Int) :
    rk Tryd.prog pol (Task.call 46 [V.d (D.i IntKind.u8 c)] []) = interp (rk Tryd.prog pol) (
brB (decide (c ≥ 48)) (Tr.ret (V.d (D.b (decide (c ≤ 57))), [])) (Tr.ret (V.d (D.b false), []))) :=
  rk_of (by kernel_rfl)
theorem t82 (c : Int) :
    rk Tryd.prog pol (Task.call 82 [V.d (D.i IntKind.u8 c)] []) = interp (rk Tryd.prog pol) (
Tr.call (Task.call 46 [V.d (D.i IntKind.u8 c)] []) fun (o_0 : Out) =>
  ift o_0.snd.isEmpty
    (asD o_0.fst fun (d_1 : D) =>
      asB d_1 fun (b_2 : Bool) =>
        brB b_2 (Tr.ret (V.d (D.b true), []))
          (brB (decide (c ≥ 97)) (brB (decide (c ≤ 102)) (Tr.ret (V.d (D.b true), [])) (brB (decide (c ≥ 65)) (Tr.ret (V.d (D.b (decide (c ≤ 70))), [])) (Tr.ret (V.d (D.b false), []))))
            (brB (decide (c ≥ 65)) (Tr.ret (V.d (D.b (decide (c ≤ 70))), [])) (Tr.ret (V.d (D.b false), [])))))) :=
  rk_of (by kernel_rfl)
theorem t80 (c : Int) :
    rk Tryd.prog pol (Task.call 80 [V.d (D.i IntKind.u8 c)] []) = interp (rk Tryd.prog pol) (
Tr.call (Task.call 44 [V.d (D.i IntKind.u8 c)] []) fun (o_0 : Out) =>
  ift o_0.snd.isEmpty
    (asD o_0.fst fun (d_1 : D) =>
      asB d_1 fun (b_2 : Bool) =>
        brB b_2 (Tr.ret (V.d (D.b true), []))
          (Tr.call (Task.call 46 [V.d (D.i IntKind.u8 c)] []) fun (o_3 : Out) =>
            ift o_3.snd.isEmpty (asD o_3.fst fun (d_4 : D) => asB d_4 fun (b_5 : Bool) => brB b_5 (Tr.ret (V.d (D.b true), [])) (Tr.ret (V.d (D.b (c == 46)), [])))))) :=
  rk_of (by kernel_rfl)
theorem t79n (s : List UInt8) (a : Int) (e : Int) (w : Int) (b : Bool) (l : List D) :
    rk Tryd.prog pol (Task.call 79 [V.p 0 0, V.f 80 []] [Ob.cells [V.d (D.s s), V.d (D.i IntKind.i64 a), V.d (D.i IntKind.i64 e), V.d (D.i IntKind.i64 w), V.d (D.l b l)] [(4, 5)]]) = interp (rk Tryd.prog pol) (
Tr.call (Task.at_ 79 1 [false] (sv 34 [(0, V.p 0 0), (1, V.f 80 [])]) [] [Ob.cells [V.d (D.s s), V.d (D.i IntKind.i64 a), V.d (D.i IntKind.i64 e), V.d (D.i IntKind.i64 w), V.d (D.l b l)] [(4, 5)]])
  Tr.ret) :=
  rk_of (by kernel_rfl)
theorem t79d (s : List UInt8) (a : Int) (e : Int) (w : Int) (b : Bool) (l : List D) :
    rk Tryd.prog pol (Task.call 79 [V.p 0 0, V.f 46 []] [Ob.cells [V.d (D.s s), V.d (D.i IntKind.i64 a), V.d (D.i IntKind.i64 e), V.d (D.i IntKind.i64 w), V.d (D.l b l)] [(4, 5)]]) = interp (rk Tryd.prog pol) (
Tr.call (Task.at_ 79 1 [false] (sv 34 [(0, V.p 0 0), (1, V.f 46 [])]) [] [Ob.cells [V.d (D.s s), V.d (D.i IntKind.i64 a), V.d (D.i IntKind.i64 e), V.d (D.i IntKind.i64 w), V.d (D.l b l)] [(4, 5)]])
  Tr.ret) :=
  rk_of (by kernel_rfl)
theorem t79h (s : List UInt8) (a : Int) (e : Int) (w : Int) (b : Bool) (l : List D) :
    rk Tryd.prog pol (Task.call 79 [V.p 0 0, V.f 82 []] [Ob.cells [V.d (D.s s), V.d (D.i IntKind.i64 a), V.d (D.i IntKind.i64 e), V.d (D.i IntKind.i64 w), V.d (D.l b l)] [(4, 5)]]) = interp (rk Tryd.prog pol) (
Tr.call (Task.at_ 79 1 [false] (sv 34 [(0, V.p 0 0), (1, V.f 82 [])]) [] [Ob.cells [V.d (D.s s), V.d (D.i IntKind.i64 a), V.d (D.i IntKind.i64 e), V.d (D.i IntKind.i64 w), V.d (D.l b l)] [(4, 5)]])
  Tr.ret) :=
  rk_of (by kernel_rfl)
theorem t20 (s : List UInt8) (a : Int) (e : Int) (w : Int) (b : Bool) (l : List D) :
    rk Tryd.prog pol (Task.call 20 [V.p 0 0] [Ob.cells [V.d (D.s s), V.d (D.i IntKind.i64 a), V.d (D.i IntKind.i64 e), V.d (D.i IntKind.i64 w), V.d (D.l b l)] [(4, 5)]]) = interp (rk Tryd.prog pol) (
brB (decide (a ≥ (↑s.length : Int))) (Tr.ret (V.d (D.b false), [Ob.cells [V.d (D.s s), V.d (D.i IntKind.i64 a), V.d (D.i IntKind.i64 e), V.d (D.i IntKind.i64 w), V.d (D.l b l)] [(4, 5)]]))
  (ob (getI s a) fun (c_0 : UInt8) =>
    Tr.call (Task.call 40 [V.d (D.s [9, 10, 13, 32]), V.d (D.i IntKind.u8 (↑c_0.toNat : Int))] []) fun (o_1 : Out) =>
      ift o_1.snd.isEmpty
        (asD o_1.fst fun (d_2 : D) =>
          asI IntKind.i64 d_2 fun (n_3 : Int) =>
            brB (decide (n_3 ≥ 0))
              (Tr.ret (V.d (D.b true), [Ob.cells [V.d (D.s s), V.d (D.i IntKind.i64 (IntKind.i64.wrap (a + 1))), V.d (D.i IntKind.i64 e), V.d (D.i IntKind.i64 w), V.d (D.l b l)] [(4, 5)]]))
              (ob (getI s a) fun (c_4 : UInt8) =>
                brB ((↑c_4.toNat : Int) == 35)
                  (Tr.call
                    (Task.at_ 20 1 [true, true, true, true, true, false, false, true, true] (sv 106 [(0, V.p 0 0), (3, V.d (D.i IntKind.i64 a)), (38, V.d (D.b true))]) []
                      [Ob.cells [V.d (D.s s), V.d (D.i IntKind.i64 a), V.d (D.i IntKind.i64 e), V.d (D.i IntKind.i64 w), V.d (D.l b l)] [(4, 5)]])
                    Tr.ret)
                  (ob (getI s a) fun (c_5 : UInt8) =>
                    brB ((↑c_5.toNat : Int) == 47)
                      (Tr.call
                        (Task.call 41 [V.p 0 0, V.d (D.i IntKind.i64 1)] [Ob.cells [V.d (D.s s), V.d (D.i IntKind.i64 a), V.d (D.i IntKind.i64 e), V.d (D.i IntKind.i64 w), V.d (D.l b l)] [(4, 5)]])
                        fun (o_6 : Out) =>
                        unCons o_6.snd fun (x_7 : Ob) (l_8 : List Ob) =>
                          unCells x_7 fun (l_9 : List V) (l_10 : Fl) =>
                            ift (l_9.length == 5)
                              (ift (l_10 == [(4, 5)])
                                (unNil l_8
                                  (asD o_6.fst fun (d_11 : D) =>
                                    asI IntKind.u8 d_11 fun (n_12 : Int) =>
                                      Tr.call
                                        (Task.at_ 20 1 [true, true, true, true, true, false, false, true, true] (sv 106 [(0, V.p 0 0), (3, V.d (D.i IntKind.i64 a)), (38, V.d (D.b (n_12 == 47)))]) []
                                          [Ob.cells l_9 [(4, 5)]])
                                        Tr.ret))))
                      (Tr.call
                        (Task.at_ 20 1 [true, true, true, true, true, false, false, true, true] (sv 106 [(0, V.p 0 0), (3, V.d (D.i IntKind.i64 a)), (38, V.d (D.b false))]) []
                          [Ob.cells [V.d (D.s s), V.d (D.i IntKind.i64 a), V.d (D.i IntKind.i64 e), V.d (D.i IntKind.i64 w), V.d (D.l b l)] [(4, 5)]])
                        Tr.ret)))))) :=
  rk_of (by kernel_rfl)
theorem t45 (s : List UInt8) (a : Int) (e : Int) (w : Int) (b : Bool) (l : List D) :
    rk Tryd.prog pol (Task.call 45 [V.p 0 0] [Ob.cells [V.d (D.s s), V.d (D.i IntKind.i64 a), V.d (D.i IntKind.i64 e), V.d (D.i IntKind.i64 w), V.d (D.l b l)] [(4, 5)]]) = interp (rk Tryd.prog pol) (
Tr.call (Task.call 79 [V.p 0 0, V.f 80 []] [Ob.cells [V.d (D.s s), V.d (D.i IntKind.i64 a), V.d (D.i IntKind.i64 e), V.d (D.i IntKind.i64 w), V.d (D.l b l)] [(4, 5)]]) fun (o_0 : Out) =>
  unCons o_0.snd fun (x_1 : Ob) (l_2 : List Ob) =>
    unCells x_1 fun (l_3 : List V) (l_4 : Fl) =>
      ift (l_3.length == 5)
        (ift (l_4 == [(4, 5)])
          (unNil l_2
            (unT o_0.fst fun (l_5 : List V) =>
              ift (l_5.length == 0)
                (ob l_3[0]? fun (v_6 : V) =>
                  asD v_6 fun (d_7 : D) =>
                    asS d_7 fun (l_8 : List UInt8) =>
                      ob l_3[1]? fun (v_9 : V) =>
                        asD v_9 fun (d_10 : D) =>
                          asI IntKind.i64 d_10 fun (n_11 : Int) =>
                            ift (decide (0 ≤ n_11 ∧ n_11 ≤ (↑l_8.length : Int)))
                              (ift (decide (0 ≤ a ∧ a ≤ (↑n_11.toNat : Int)))
                                (brB (decide ((↑(List.take (n_11.toNat - a.toNat) (List.drop a.toNat l_8)).length : Int) > 120))
                                  (Tr.call (Task.call 43 [V.p 0 0, V.d (D.i IntKind.i64 4), V.d (D.i IntKind.i64 a)] [Ob.cells l_3 [(4, 5)]]) fun (o_12 : Out) =>
                                    unCons o_12.snd fun (x_13 : Ob) (l_14 : List Ob) =>
                                      unCells x_13 fun (l_15 : List V) (l_16 : Fl) =>
                                        ift (l_15.length == l_3.length)
                                          (ift (l_16 == [(4, 5)])
                                            (unNil l_14
                                              (unT o_12.fst fun (l_17 : List V) =>
                                                ift (l_17.length == 0)
                                                  (Tr.call
                                                    (Task.at_ 45 1 [true, true, true, true]
                                                      (sv 58 [(0, V.p 0 0), (2, V.d (D.i IntKind.i64 a)), (3, V.d (D.s (List.take (n_11.toNat - a.toNat) (List.drop a.toNat l_8))))]) []
                                                      [Ob.cells l_15 [(4, 5)]])
                                                    Tr.ret)))))
                                  (Tr.call (Task.call 81 [V.d (D.s (List.take (n_11.toNat - a.toNat) (List.drop a.toNat l_8))), V.d (D.s [46])] []) fun (o_18 : Out) =>
                                    ift o_18.snd.isEmpty
                                      (asD o_18.fst fun (d_19 : D) =>
                                        asB d_19 fun (b_20 : Bool) =>
                                          brB b_20
                                            (Tr.call
                                              (Task.at_ 45 1 [true, true, true, false, false, true, true, true]
                                                (sv 58 [(0, V.p 0 0), (2, V.d (D.i IntKind.i64 a)), (3, V.d (D.s (List.take (n_11.toNat - a.toNat) (List.drop a.toNat l_8)))), (34, V.d (D.b true))]) []
                                                [Ob.cells l_3 [(4, 5)]])
                                              Tr.ret)
                                            (Tr.call (Task.call 27 [V.d (D.s (List.take (n_11.toNat - a.toNat) (List.drop a.toNat l_8))), V.d (D.s [46, 46])] []) fun (o_21 : Out) =>
                                              ift o_21.snd.isEmpty
                                                (asD o_21.fst fun (d_22 : D) =>
                                                  asB d_22 fun (b_23 : Bool) =>
                                                    Tr.call
                                                      (Task.at_ 45 1 [true, true, true, false, false, true, true, true]
                                                        (sv 58
                                                          [(0, V.p 0 0), (2, V.d (D.i IntKind.i64 a)), (3, V.d (D.s (List.take (n_11.toNat - a.toNat) (List.drop a.toNat l_8)))), (34, V.d (D.b b_23))])
                                                        [] [Ob.cells l_3 [(4, 5)]])
                                                      Tr.ret))))))))))) :=
  rk_of (by kernel_rfl)
theorem t84 (s : List UInt8) (a : Int) (e : Int) (w : Int) (b : Bool) (l : List D) :
    rk Tryd.prog pol (Task.call 84 [V.p 0 0] [Ob.cells [V.d (D.s s), V.d (D.i IntKind.i64 a), V.d (D.i IntKind.i64 e), V.d (D.i IntKind.i64 w), V.d (D.l b l)] [(4, 5)]]) = interp (rk Tryd.prog pol) (
Tr.call (Task.call 41 [V.p 0 0, V.d (D.i IntKind.i64 0)] [Ob.cells [V.d (D.s s), V.d (D.i IntKind.i64 a), V.d (D.i IntKind.i64 e), V.d (D.i IntKind.i64 w), V.d (D.l b l)] [(4, 5)]]) fun (o_0 : Out) =>
  unCons o_0.snd fun (x_1 : Ob) (l_2 : List Ob) =>
    unCells x_1 fun (l_3 : List V) (l_4 : Fl) =>
      ift (l_3.length == 5)
        (ift (l_4 == [(4, 5)])
          (unNil l_2
            (asD o_0.fst fun (d_5 : D) =>
              asI IntKind.u8 d_5 fun (n_6 : Int) =>
                Tr.call (Task.call 44 [V.d (D.i IntKind.u8 n_6)] []) fun (o_7 : Out) =>
                  ift o_7.snd.isEmpty
                    (asD o_7.fst fun (d_8 : D) =>
                      asB d_8 fun (b_9 : Bool) =>
                        brB b_9 (Tr.call (Task.at_ 84 1 [true, true] (sv 22 [(0, V.p 0 0), (12, V.d (D.b true))]) [] [Ob.cells l_3 [(4, 5)]]) Tr.ret)
                          (Tr.call (Task.at_ 84 1 [true, true] (sv 22 [(0, V.p 0 0), (12, V.d (D.b (n_6 == 46)))]) [] [Ob.cells l_3 [(4, 5)]]) Tr.ret)))))) :=
  rk_of (by kernel_rfl)
theorem t83 (n : Int) (s : List UInt8) (a : Int) (e : Int) (w : Int) (b : Bool) (l : List D) :
    rk Tryd.prog pol (Task.call 83 [V.p 0 0, V.d (D.i IntKind.i64 n)] [Ob.cells [V.d (D.s s), V.d (D.i IntKind.i64 a), V.d (D.i IntKind.i64 e), V.d (D.i IntKind.i64 w), V.d (D.l b l)] [(4, 5)]]) = interp (rk Tryd.prog pol) (
Tr.call (Task.call 79 [V.p 0 0, V.f 82 []] [Ob.cells [V.d (D.s s), V.d (D.i IntKind.i64 (IntKind.i64.wrap (a + 2))), V.d (D.i IntKind.i64 e), V.d (D.i IntKind.i64 w), V.d (D.l b l)] [(4, 5)]])
  fun (o_0 : Out) =>
  unCons o_0.snd fun (x_1 : Ob) (l_2 : List Ob) =>
    unCells x_1 fun (l_3 : List V) (l_4 : Fl) =>
      ift (l_3.length == 5)
        (ift (l_4 == [(4, 5)])
          (unNil l_2
            (unT o_0.fst fun (l_5 : List V) =>
              ift (l_5.length == 0)
                (ob l_3[0]? fun (v_6 : V) =>
                  asD v_6 fun (d_7 : D) =>
                    asS d_7 fun (l_8 : List UInt8) =>
                      ob l_3[1]? fun (v_9 : V) =>
                        asD v_9 fun (d_10 : D) =>
                          asI IntKind.i64 d_10 fun (n_11 : Int) =>
                            ift (decide (0 ≤ n_11 ∧ n_11 ≤ (↑l_8.length : Int)))
                              (ift (decide (0 ≤ IntKind.i64.wrap (a + 2) ∧ IntKind.i64.wrap (a + 2) ≤ (↑n_11.toNat : Int)))
                                (brB (decide ((↑(List.take (n_11.toNat - (IntKind.i64.wrap (a + 2)).toNat) (List.drop (IntKind.i64.wrap (a + 2)).toNat l_8)).length : Int) > 16))
                                  (Tr.call (Task.call 43 [V.p 0 0, V.d (D.i IntKind.i64 4), V.d (D.i IntKind.i64 n)] [Ob.cells l_3 [(4, 5)]]) fun (o_12 : Out) =>
                                    unCons o_12.snd fun (x_13 : Ob) (l_14 : List Ob) =>
                                      unCells x_13 fun (l_15 : List V) (l_16 : Fl) =>
                                        ift (l_15.length == l_3.length)
                                          (ift (l_16 == [(4, 5)])
                                            (unNil l_14
                                              (unT o_12.fst fun (l_17 : List V) =>
                                                ift (l_17.length == 0)
                                                  (Tr.call
                                                    (Task.at_ 83 1 [true, true, true, true, true, true] (sv 71 [(0, V.p 0 0), (1, V.d (D.i IntKind.i64 n)), (6, V.d (D.i IntKind.u64 0))]) []
                                                      [Ob.cells l_15 [(4, 5)]])
                                                    Tr.ret)))))
                                  (Tr.call
                                    (Task.call 107
                                      [V.d (D.s (List.take (n_11.toNat - (IntKind.i64.wrap (a + 2)).toNat) (List.drop (IntKind.i64.wrap (a + 2)).toNat l_8))), V.d (D.i IntKind.i64 16),
                                        V.d (D.i IntKind.i64 64)]
                                      [])
                                    fun (o_18 : Out) =>
                                    ift o_18.snd.isEmpty
                                      (unT o_18.fst fun (l_19 : List V) =>
                                        ift (l_19.length == 2)
                                          (asD (l_19.getD 0 (V.d (D.b false))) fun (d_20 : D) =>
                                            asI IntKind.u64 d_20 fun (n_21 : Int) =>
                                              ift (bnd (V.t [V.d (D.i IntKind.u64 n_21), l_19.getD 1 (V.d (D.b false))]) == 0)
                                                (Tr.call
                                                  (Task.at_ 83 1 [true, true, true, true, true, true] (sv 71 [(0, V.p 0 0), (1, V.d (D.i IntKind.i64 n)), (6, V.d (D.i IntKind.u64 n_21))]) []
                                                    [Ob.cells l_3 [(4, 5)]])
                                                  Tr.ret))))))))))) :=
  rk_of (by kernel_rfl)
theorem t85 (s : List UInt8) (a : Int) (e : Int) (w : Int) (b : Bool) (l : List D) :
    rk Tryd.prog pol (Task.call 85 [V.p 0 0] [Ob.cells [V.d (D.s s), V.d (D.i IntKind.i64 a), V.d (D.i IntKind.i64 e), V.d (D.i IntKind.i64 w), V.d (D.l b l)] [(4, 5)]]) = interp (rk Tryd.prog pol) (
Tr.call (Task.call 41 [V.p 0 0, V.d (D.i IntKind.i64 0)] [Ob.cells [V.d (D.s s), V.d (D.i IntKind.i64 a), V.d (D.i IntKind.i64 e), V.d (D.i IntKind.i64 w), V.d (D.l b l)] [(4, 5)]]) fun (o_0 : Out) =>
  unCons o_0.snd fun (x_1 : Ob) (l_2 : List Ob) =>
    unCells x_1 fun (l_3 : List V) (l_4 : Fl) =>
      ift (l_3.length == 5)
        (ift (l_4 == [(4, 5)])
          (unNil l_2
            (asD o_0.fst fun (d_5 : D) =>
              asI IntKind.u8 d_5 fun (n_6 : Int) =>
                brB (n_6 == 46)
                  (Tr.call (Task.call 41 [V.p 0 0, V.d (D.i IntKind.i64 1)] [Ob.cells l_3 [(4, 5)]]) fun (o_7 : Out) =>
                    unCons o_7.snd fun (x_8 : Ob) (l_9 : List Ob) =>
                      unCells x_8 fun (l_10 : List V) (l_11 : Fl) =>
                        ift (l_10.length == l_3.length)
                          (ift (l_11 == [(4, 5)])
                            (unNil l_9
                              (asD o_7.fst fun (d_12 : D) =>
                                asI IntKind.u8 d_12 fun (n_13 : Int) =>
                                  Tr.call (Task.call 46 [V.d (D.i IntKind.u8 n_13)] []) fun (o_14 : Out) =>
                                    ift o_14.snd.isEmpty
                                      (asD o_14.fst fun (d_15 : D) =>
                                        asB d_15 fun (b_16 : Bool) =>
                                          Tr.call (Task.at_ 85 1 [true, false, true, true] (sv 73 [(0, V.p 0 0), (3, V.d (D.b false)), (18, V.d (D.b b_16))]) [] [Ob.cells l_10 [(4, 5)]]) Tr.ret)))))
                  (Tr.call (Task.at_ 85 1 [true, false, true, true] (sv 73 [(0, V.p 0 0), (3, V.d (D.b false)), (18, V.d (D.b false))]) [] [Ob.cells l_3 [(4, 5)]]) Tr.ret))))) :=
  rk_of (by kernel_rfl)
theorem t86 (s : List UInt8) :
    rk Tryd.prog pol (Task.call 86 [V.d (D.s s)] []) = interp (rk Tryd.prog pol) (
ob (getI s 0) fun (c_0 : UInt8) =>
  Tr.call (Task.call 108 [V.d (D.s s), V.d (D.s [43, 45])] []) fun (o_1 : Out) =>
    ift o_1.snd.isEmpty
      (asD o_1.fst fun (d_2 : D) =>
        asS d_2 fun (l_3 : List UInt8) =>
          Tr.call (Task.call 108 [V.d (D.s l_3), V.d (D.s [48])] []) fun (o_4 : Out) =>
            ift o_4.snd.isEmpty
              (asD o_4.fst fun (d_5 : D) =>
                asS d_5 fun (l_6 : List UInt8) =>
                  brB (decide ((↑l_6.length : Int) > 19)) (Tr.ret (V.t [V.d (D.i IntKind.i64 0), V.d (D.b false)], []))
                    (Tr.call
                      (Task.at_ 86 0 [false, true, false, true, true, true, true, true]
                        (sv 40 [(4, V.d (D.b ((↑c_0.toNat : Int) == 45))), (5, V.d (D.s l_6)), (6, V.d (D.i IntKind.u64 0)), (18, V.it 0)]) [] [Ob.iter l_6 0])
                      Tr.ret)))) :=
  rk_of (by kernel_rfl)
theorem t47 (s : List UInt8) (a : Int) (e : Int) (w : Int) (b : Bool) (l : List D) :
    rk Tryd.prog pol (Task.call 47 [V.p 0 0] [Ob.cells [V.d (D.s s), V.d (D.i IntKind.i64 a), V.d (D.i IntKind.i64 e), V.d (D.i IntKind.i64 w), V.d (D.l b l)] [(4, 5)]]) = interp (rk Tryd.prog pol) (
ob (getI s a) fun (c_0 : UInt8) =>
  brB ((↑c_0.toNat : Int) == 43)
    (Tr.call
      (Task.at_ 47 1 [true, false, true] (sv 192 [(0, V.p 0 0), (2, V.d (D.i IntKind.i64 a)), (42, V.d (D.b true))]) []
        [Ob.cells [V.d (D.s s), V.d (D.i IntKind.i64 a), V.d (D.i IntKind.i64 e), V.d (D.i IntKind.i64 w), V.d (D.l b l)] [(4, 5)]])
      Tr.ret)
    (ob (getI s a) fun (c_1 : UInt8) =>
      Tr.call
        (Task.at_ 47 1 [true, false, true] (sv 192 [(0, V.p 0 0), (2, V.d (D.i IntKind.i64 a)), (42, V.d (D.b ((↑c_1.toNat : Int) == 45)))]) []
          [Ob.cells [V.d (D.s s), V.d (D.i IntKind.i64 a), V.d (D.i IntKind.i64 e), V.d (D.i IntKind.i64 w), V.d (D.l b l)] [(4, 5)]])
        Tr.ret)) :=
  rk_of (by kernel_rfl)
theorem t48 (s : List UInt8) (a : Int) (e : Int) (w : Int) (b : Bool) (l : List D) :
    rk Tryd.prog pol (Task.call 48 [V.p 0 0] [Ob.cells [V.d (D.s s), V.d (D.i IntKind.i64 a), V.d (D.i IntKind.i64 e), V.d (D.i IntKind.i64 w), V.d (D.l b l)] [(4, 5)]]) = interp (rk Tryd.prog pol) (
ob (getI s a) fun (c_0 : UInt8) =>
  ift (decide (0 ≤ IntKind.i64.wrap (a + 1) ∧ IntKind.i64.wrap (a + 1) ≤ (↑s.length : Int)))
    (Tr.call (Task.call 40 [V.d (D.s (List.take (s.length - (IntKind.i64.wrap (a + 1)).toNat) (List.drop (IntKind.i64.wrap (a + 1)).toNat s))), V.d (D.i IntKind.u8 (↑c_0.toNat : Int))] [])
      fun (o_1 : Out) =>
      ift o_1.snd.isEmpty
        (asD o_1.fst fun (d_2 : D) =>
          asI IntKind.i64 d_2 fun (n_3 : Int) =>
            brB (decide (n_3 < 0))
              (Tr.call
                (Task.at_ 48 1 [true, false, true, true, true] (sv 100 [(0, V.p 0 0), (2, V.d (D.i IntKind.i64 a)), (4, V.d (D.i IntKind.i64 n_3)), (60, V.d (D.b true))]) []
                  [Ob.cells [V.d (D.s s), V.d (D.i IntKind.i64 a), V.d (D.i IntKind.i64 e), V.d (D.i IntKind.i64 w), V.d (D.l b l)] [(4, 5)]])
                Tr.ret)
              (ift (decide (0 ≤ IntKind.i64.wrap (IntKind.i64.wrap (a + 1) + n_3) ∧ IntKind.i64.wrap (IntKind.i64.wrap (a + 1) + n_3) ≤ (↑s.length : Int)))
                (ift (decide (0 ≤ IntKind.i64.wrap (a + 1) ∧ IntKind.i64.wrap (a + 1) ≤ (↑(IntKind.i64.wrap (IntKind.i64.wrap (a + 1) + n_3)).toNat : Int)))
                  (Tr.call
                    (Task.call 40
                      [V.d (D.s (List.take ((IntKind.i64.wrap (IntKind.i64.wrap (a + 1) + n_3)).toNat - (IntKind.i64.wrap (a + 1)).toNat) (List.drop (IntKind.i64.wrap (a + 1)).toNat s))),
                        V.d (D.i IntKind.u8 10)]
                      [])
                    fun (o_4 : Out) =>
                    ift o_4.snd.isEmpty
                      (asD o_4.fst fun (d_5 : D) =>
                        asI IntKind.i64 d_5 fun (n_6 : Int) =>
                          Tr.call
                            (Task.at_ 48 1 [true, false, true, true, true] (sv 100 [(0, V.p 0 0), (2, V.d (D.i IntKind.i64 a)), (4, V.d (D.i IntKind.i64 n_3)), (60, V.d (D.b (decide (n_6 ≥ 0))))]) []
                              [Ob.cells [V.d (D.s s), V.d (D.i IntKind.i64 a), V.d (D.i IntKind.i64 e), V.d (D.i IntKind.i64 w), V.d (D.l b l)] [(4, 5)]])
                            Tr.ret))))))) :=
  rk_of (by kernel_rfl)
theorem t21 (s : List UInt8) (a : Int) (e : Int) (w : Int) (b : Bool) (l : List D) :
    rk Tryd.prog pol (Task.call 21 [V.p 0 0] [Ob.cells [V.d (D.s s), V.d (D.i IntKind.i64 a), V.d (D.i IntKind.i64 e), V.d (D.i IntKind.i64 w), V.d (D.l b l)] [(4, 5)]]) = interp (rk Tryd.prog pol) (
ob (getI s a) fun (c_0 : UInt8) =>
  Tr.call (Task.call 44 [V.d (D.i IntKind.u8 (↑c_0.toNat : Int))] []) fun (o_1 : Out) =>
    ift o_1.snd.isEmpty
      (asD o_1.fst fun (d_2 : D) =>
        asB d_2 fun (b_3 : Bool) =>
          brB b_3
            (Tr.call (Task.call 45 [V.p 0 0] [Ob.cells [V.d (D.s s), V.d (D.i IntKind.i64 a), V.d (D.i IntKind.i64 e), V.d (D.i IntKind.i64 w), V.d (D.l b l)] [(4, 5)]]) fun (o_4 : Out) =>
              unCons o_4.snd fun (x_5 : Ob) (l_6 : List Ob) =>
                unCells x_5 fun (l_7 : List V) (l_8 : Fl) =>
                  ift (l_7.length == 5) (ift (l_8 == [(4, 5)]) (unNil l_6 (unT o_4.fst fun (l_9 : List V) => ift (l_9.length == 0) (Tr.ret (V.t [], [Ob.cells l_7 [(4, 5)]]))))))
            (Tr.call (Task.call 46 [V.d (D.i IntKind.u8 (↑c_0.toNat : Int))] []) fun (o_10 : Out) =>
              ift o_10.snd.isEmpty
                (asD o_10.fst fun (d_11 : D) =>
                  asB d_11 fun (b_12 : Bool) =>
                    brB b_12
                      (Tr.call
                        (Task.at_ 21 1 [true, true, true, false, true] (sv 85 [(0, V.p 0 0), (2, V.d (D.i IntKind.u8 (↑c_0.toNat : Int))), (28, V.d (D.b true))]) []
                          [Ob.cells [V.d (D.s s), V.d (D.i IntKind.i64 a), V.d (D.i IntKind.i64 e), V.d (D.i IntKind.i64 w), V.d (D.l b l)] [(4, 5)]])
                        Tr.ret)
                      (brB ((↑c_0.toNat : Int) == 43)
                        (Tr.call
                          (Task.at_ 21 1 [true, true, true, false, true] (sv 85 [(0, V.p 0 0), (2, V.d (D.i IntKind.u8 (↑c_0.toNat : Int))), (28, V.d (D.b true))]) []
                            [Ob.cells [V.d (D.s s), V.d (D.i IntKind.i64 a), V.d (D.i IntKind.i64 e), V.d (D.i IntKind.i64 w), V.d (D.l b l)] [(4, 5)]])
                          Tr.ret)
                        (brB ((↑c_0.toNat : Int) == 45)
                          (Tr.call
                            (Task.at_ 21 1 [true, true, true, false, true] (sv 85 [(0, V.p 0 0), (2, V.d (D.i IntKind.u8 (↑c_0.toNat : Int))), (28, V.d (D.b true))]) []
                              [Ob.cells [V.d (D.s s), V.d (D.i IntKind.i64 a), V.d (D.i IntKind.i64 e), V.d (D.i IntKind.i64 w), V.d (D.l b l)] [(4, 5)]])
                            Tr.ret)
                          (Tr.call
                            (Task.at_ 21 1 [true, true, true, false, true] (sv 85 [(0, V.p 0 0), (2, V.d (D.i IntKind.u8 (↑c_0.toNat : Int))), (28, V.d (D.b ((↑c_0.toNat : Int) == 46)))]) []
                              [Ob.cells [V.d (D.s s), V.d (D.i IntKind.i64 a), V.d (D.i IntKind.i64 e), V.d (D.i IntKind.i64 w), V.d (D.l b l)] [(4, 5)]])
                            Tr.ret))))))) :=
  rk_of (by kernel_rfl)
theorem t10 (s : List UInt8) :
    rk Tryd.prog pol (Task.call 10 [V.d (D.s s)] []) = interp (rk Tryd.prog pol) (
brB (decide ((↑s.length : Int) > 2000)) (Tr.ret (V.t [V.d (D.l true []), V.d (D.i IntKind.i64 4), V.d (D.i IntKind.i64 0)], []))
  (Tr.call
    (Task.at_ 10 0 [false, true, true, true] (sv 72 [(0, V.d (D.s s)), (5, V.p 0 0)]) []
      [Ob.cells [V.d (D.s s), V.d (D.i IntKind.i64 0), V.d (D.i IntKind.i64 0), V.d (D.i IntKind.i64 0), V.d (D.l true [])] [(4, 5)]])
    Tr.ret)) :=
  rk_of (by kernel_rfl)
theorem t9 :
    rk Tryd.prog pol (Task.call 9 [] []) = interp (rk Tryd.prog pol) (
Tr.call (Task.call 10 [V.d (D.s [97, 32, 61, 32, 49])] []) fun (o_0 : Out) =>
  ift o_0.snd.isEmpty
    (unT o_0.fst fun (l_1 : List V) =>
      ift (l_1.length == 3)
        (asD (l_1.getD 0 (V.d (D.b false))) fun (d_2 : D) =>
          asL d_2 fun (b_3 : Bool) (l_4 : List D) =>
            asD (l_1.getD 1 (V.d (D.b false))) fun (d_5 : D) =>
              asI IntKind.i64 d_5 fun (n_6 : Int) =>
                asD (l_1.getD 2 (V.d (D.b false))) fun (d_7 : D) =>
                  asI IntKind.i64 d_7 fun (n_8 : Int) =>
                    Tr.call (Task.call 10 [V.d (D.s [97, 32, 63])] []) fun (o_9 : Out) =>
                      ift o_9.snd.isEmpty
                        (unT o_9.fst fun (l_10 : List V) =>
                          ift (l_10.length == 3)
                            (asD (l_10.getD 0 (V.d (D.b false))) fun (d_11 : D) =>
                              asL d_11 fun (b_12 : Bool) (l_13 : List D) =>
                                asD (l_10.getD 1 (V.d (D.b false))) fun (d_14 : D) =>
                                  asI IntKind.i64 d_14 fun (n_15 : Int) =>
                                    asD (l_10.getD 2 (V.d (D.b false))) fun (d_16 : D) =>
                                      asI IntKind.i64 d_16 fun (n_17 : Int) =>
                                        brB (n_6 == 0)
                                          (brB ((↑l_4.length : Int) == 4)
                                            (ob (getI l_4 2) fun (d_18 : D) =>
                                              ift (d_18.width == 5)
                                                (ob l_4[2]? fun (d_19 : D) =>
                                                  ob d_19.cells[2]? fun (d_20 : D) =>
                                                    asI IntKind.i64 d_20 fun (n_21 : Int) =>
                                                      brB (n_21 == 1)
                                                        (ob (getI l_4 3) fun (d_22 : D) =>
                                                          ift (d_22.width == 5)
                                                            (ob l_4[3]? fun (d_23 : D) =>
                                                              ob d_23.cells[0]? fun (d_24 : D) =>
                                                                asI IntKind.i64 d_24 fun (n_25 : Int) =>
                                                                  brB (n_25 == 6) (brB (n_15 == 2) (Tr.ret (V.d (D.b (n_17 == 2)), [])) (Tr.ret (V.d (D.b false), []))) (Tr.ret (V.d (D.b false), []))))
                                                        (Tr.ret (V.d (D.b false), []))))
                                            (Tr.ret (V.d (D.b false), [])))
                                          (Tr.ret (V.d (D.b false), []))))))) :=
  rk_of (by kernel_rfl)
theorem t4 (s : List UInt8) :
    rk Tryd.prog pol (Task.call 4 [V.d (D.s s)] []) = interp (rk Tryd.prog pol) (
Tr.call (Task.call 9 [] []) fun (o_0 : Out) =>
  ift o_0.snd.isEmpty
    (asD o_0.fst fun (d_1 : D) =>
      asB d_1 fun (b_2 : Bool) =>
        brB (!b_2) (Tr.ret (V.d (D.b false), []))
          (brB (decide ((↑s.length : Int) > 200)) (Tr.ret (V.d (D.b true), []))
            (Tr.call (Task.call 10 [V.d (D.s s)] []) fun (o_3 : Out) =>
              ift o_3.snd.isEmpty
                (unT o_3.fst fun (l_4 : List V) =>
                  ift (l_4.length == 3)
                    (asD (l_4.getD 0 (V.d (D.b false))) fun (d_5 : D) =>
                      asL d_5 fun (b_6 : Bool) (l_7 : List D) =>
                        asD (l_4.getD 1 (V.d (D.b false))) fun (d_8 : D) =>
                          asI IntKind.i64 d_8 fun (n_9 : Int) =>
                            asD (l_4.getD 2 (V.d (D.b false))) fun (d_10 : D) =>
                              asI IntKind.i64 d_10 fun (n_11 : Int) =>
                                brB (n_9 != 0)
                                  (brB ((↑l_7.length : Int) == 0) (brB (decide (n_11 ≥ 0)) (Tr.ret (V.d (D.b (decide (n_11 ≤ (↑s.length : Int)))), [])) (Tr.ret (V.d (D.b false), [])))
                                    (Tr.ret (V.d (D.b false), [])))
                                  (Tr.call (Task.at_ 4 0 [false, true, false, true, true, true, true, true] (sv 148 [(0, V.d (D.s s)), (3, V.d (D.l b_6 l_7)), (6, V.d (D.i IntKind.i64 0))]) [] [])
                                    Tr.ret))))))) :=
  rk_of (by kernel_rfl)
theorem t5 :
    rk Tryd.prog pol (Task.call 5 [] []) = interp (rk Tryd.prog pol) (
Tr.call (Task.call 9 [] []) fun (o_0 : Out) =>
  ift o_0.snd.isEmpty
    (asD o_0.fst fun (d_1 : D) =>
      asB d_1 fun (b_2 : Bool) =>
        brB (!b_2) (Tr.ret (V.d (D.b false), []))
          (Tr.call
            (Task.at_ 5 0 [false, true, false, true, true, true, true, true]
              (sv 110
                [(1,
                    V.d
                      (D.l true
                        [D.s [], D.s [97, 46, 98], D.s [97, 46], D.s [97, 46, 46, 98], D.s [48, 120], D.s [48, 120, 49, 70],
                          D.s [48, 120, 55, 102, 102, 102, 102, 102, 102, 102, 102, 102, 102, 102, 102, 102, 102, 102], D.s [48, 120, 56, 48, 48, 48, 48, 48, 48, 48, 48, 48, 48, 48, 48, 48, 48, 48],
                          D.s [48, 120, 48, 48, 48, 48, 48, 48, 48, 48, 48, 48, 48, 48, 48, 48, 48, 48, 49], D.s [57, 50, 50, 51, 51, 55, 50, 48, 51, 54, 56, 53, 52, 55, 55, 53, 56, 48, 55],
                          D.s [57, 50, 50, 51, 51, 55, 50, 48, 51, 54, 56, 53, 52, 55, 55, 53, 56, 48, 56], D.s [45, 57, 50, 50, 51, 51, 55, 50, 48, 51, 54, 56, 53, 52, 55, 55, 53, 56, 48, 56],
                          D.s [45, 57, 50, 50, 51, 51, 55, 50, 48, 51, 54, 56, 53, 52, 55, 55, 53, 56, 48, 57], D.s [43, 53], D.s [45], D.s [49, 97], D.s [49, 46, 53], D.s [49, 46],
                          D.s [49, 46, 53, 46, 50], D.s [46, 53], D.s [46], D.s [49, 101, 53], D.s [49, 101], D.s [49, 101, 52, 48, 48], D.s [39, 97, 34, 98, 39], D.s [34, 97],
                          D.s [39, 97, 10, 98, 39], D.s [47, 42, 32, 97], D.s [47, 42, 97, 42, 47, 32, 98], D.s [35, 32, 97], D.s [47, 47], D.s [47], D.s [97, 47, 98], D.s [36],
                          D.s [49, 101, 53, 120], D.s [45, 45, 49], D.s [123, 125, 40, 41, 91, 93, 60, 62, 44, 59, 58, 61, 42]])),
                  (2,
                    V.d
                      (D.l true
                        [D.i IntKind.i64 0, D.i IntKind.i64 0, D.i IntKind.i64 2, D.i IntKind.i64 2, D.i IntKind.i64 2, D.i IntKind.i64 0, D.i IntKind.i64 0, D.i IntKind.i64 5, D.i IntKind.i64 4,
                          D.i IntKind.i64 0, D.i IntKind.i64 5, D.i IntKind.i64 0, D.i IntKind.i64 5, D.i IntKind.i64 0, D.i IntKind.i64 2, D.i IntKind.i64 2, D.i IntKind.i64 0, D.i IntKind.i64 2,
                          D.i IntKind.i64 2, D.i IntKind.i64 0, D.i IntKind.i64 2, D.i IntKind.i64 0, D.i IntKind.i64 2, D.i IntKind.i64 5, D.i IntKind.i64 0, D.i IntKind.i64 2, D.i IntKind.i64 2,
                          D.i IntKind.i64 2, D.i IntKind.i64 0, D.i IntKind.i64 0, D.i IntKind.i64 0, D.i IntKind.i64 2, D.i IntKind.i64 2, D.i IntKind.i64 2, D.i IntKind.i64 2, D.i IntKind.i64 2,
                          D.i IntKind.i64 0])),
                  (3,
                    V.d
                      (D.l true
                        [D.i IntKind.i64 0, D.i IntKind.i64 0, D.i IntKind.i64 0, D.i IntKind.i64 0, D.i IntKind.i64 1, D.i IntKind.i64 0, D.i IntKind.i64 0, D.i IntKind.i64 0, D.i IntKind.i64 0,
                          D.i IntKind.i64 0, D.i IntKind.i64 0, D.i IntKind.i64 0, D.i IntKind.i64 0, D.i IntKind.i64 0, D.i IntKind.i64 0, D.i IntKind.i64 1, D.i IntKind.i64 0, D.i IntKind.i64 1,
                          D.i IntKind.i64 3, D.i IntKind.i64 0, D.i IntKind.i64 0, D.i IntKind.i64 0, D.i IntKind.i64 1, D.i IntKind.i64 0, D.i IntKind.i64 0, D.i IntKind.i64 0, D.i IntKind.i64 0,
                          D.i IntKind.i64 0, D.i IntKind.i64 0, D.i IntKind.i64 0, D.i IntKind.i64 0, D.i IntKind.i64 0, D.i IntKind.i64 1, D.i IntKind.i64 0, D.i IntKind.i64 3, D.i IntKind.i64 0,
                          D.i IntKind.i64 0])),
                  (4, V.d (D.i IntKind.i64 0))])
              [] [])
            Tr.ret))) :=
  rk_of (by kernel_rfl)
theorem t79_at2 (l_0 : List UInt8) (n_1 : Int) (n_2 : Int) (n_3 : Int) (b_4 : Bool) (l_5 : List D) :
    rk Tryd.prog pol (Task.at_ 79 1 [false] (sv 34 [(0, V.p 0 0), (1, V.f 80 [])]) [] [Ob.cells [V.d (D.s l_0), V.d (D.i IntKind.i64 n_1), V.d (D.i IntKind.i64 n_2), V.d (D.i IntKind.i64 n_3), V.d (D.l b_4 l_5)] [(4, 5)]]) = interp (rk Tryd.prog pol) (
brB (decide (n_1 < (↑l_0.length : Int)))
  (ob (getI l_0 n_1) fun (c_0 : UInt8) =>
    Tr.call (Task.call 80 [V.d (D.i IntKind.u8 (↑c_0.toNat : Int))] []) fun (o_1 : Out) =>
      ift o_1.snd.isEmpty
        (asD o_1.fst fun (d_2 : D) =>
          asB d_2 fun (b_3 : Bool) =>
            Tr.call
              (Task.at_ 79 1 [true, false, false, false] (sv 34 [(0, V.p 0 0), (1, V.f 80 []), (26, V.d (D.b b_3))]) []
                [Ob.cells [V.d (D.s l_0), V.d (D.i IntKind.i64 n_1), V.d (D.i IntKind.i64 n_2), V.d (D.i IntKind.i64 n_3), V.d (D.l b_4 l_5)] [(4, 5)]])
              Tr.ret))
  (Tr.call
    (Task.at_ 79 1 [true, false, false, false] (sv 34 [(0, V.p 0 0), (1, V.f 80 []), (26, V.d (D.b false))]) []
      [Ob.cells [V.d (D.s l_0), V.d (D.i IntKind.i64 n_1), V.d (D.i IntKind.i64 n_2), V.d (D.i IntKind.i64 n_3), V.d (D.l b_4 l_5)] [(4, 5)]])
    Tr.ret)) :=
  rk_of (by kernel_rfl)
theorem t79_at2_1 (l_0 : List UInt8) (n_1 : Int) (n_2 : Int) (n_3 : Int) (b_4 : Bool) (l_5 : List D) :
    rk Tryd.prog pol (Task.at_ 79 1 [false] (sv 34 [(0, V.p 0 0), (1, V.f 46 [])]) [] [Ob.cells [V.d (D.s l_0), V.d (D.i IntKind.i64 n_1), V.d (D.i IntKind.i64 n_2), V.d (D.i IntKind.i64 n_3), V.d (D.l b_4 l_5)] [(4, 5)]]) = interp (rk Tryd.prog pol) (
brB (decide (n_1 < (↑l_0.length : Int)))
  (ob (getI l_0 n_1) fun (c_0 : UInt8) =>
    Tr.call (Task.call 46 [V.d (D.i IntKind.u8 (↑c_0.toNat : Int))] []) fun (o_1 : Out) =>
      ift o_1.snd.isEmpty
        (asD o_1.fst fun (d_2 : D) =>
          asB d_2 fun (b_3 : Bool) =>
            Tr.call
              (Task.at_ 79 1 [true, false, false, false] (sv 34 [(0, V.p 0 0), (1, V.f 46 []), (26, V.d (D.b b_3))]) []
                [Ob.cells [V.d (D.s l_0), V.d (D.i IntKind.i64 n_1), V.d (D.i IntKind.i64 n_2), V.d (D.i IntKind.i64 n_3), V.d (D.l b_4 l_5)] [(4, 5)]])
              Tr.ret))
  (Tr.call
    (Task.at_ 79 1 [true, false, false, false] (sv 34 [(0, V.p 0 0), (1, V.f 46 []), (26, V.d (D.b false))]) []
      [Ob.cells [V.d (D.s l_0), V.d (D.i IntKind.i64 n_1), V.d (D.i IntKind.i64 n_2), V.d (D.i IntKind.i64 n_3), V.d (D.l b_4 l_5)] [(4, 5)]])
    Tr.ret)) :=
  rk_of (by kernel_rfl)
theorem t79_at2_2 (l_0 : List UInt8) (n_1 : Int) (n_2 : Int) (n_3 : Int) (b_4 : Bool) (l_5 : List D) :
    rk Tryd.prog pol (Task.at_ 79 1 [false] (sv 34 [(0, V.p 0 0), (1, V.f 82 [])]) [] [Ob.cells [V.d (D.s l_0), V.d (D.i IntKind.i64 n_1), V.d (D.i IntKind.i64 n_2), V.d (D.i IntKind.i64 n_3), V.d (D.l b_4 l_5)] [(4, 5)]]) = interp (rk Tryd.prog pol) (
brB (decide (n_1 < (↑l_0.length : Int)))
  (ob (getI l_0 n_1) fun (c_0 : UInt8) =>
    Tr.call (Task.call 82 [V.d (D.i IntKind.u8 (↑c_0.toNat : Int))] []) fun (o_1 : Out) =>
      ift o_1.snd.isEmpty
        (asD o_1.fst fun (d_2 : D) =>
          asB d_2 fun (b_3 : Bool) =>
            Tr.call
              (Task.at_ 79 1 [true, false, false, false] (sv 34 [(0, V.p 0 0), (1, V.f 82 []), (26, V.d (D.b b_3))]) []
                [Ob.cells [V.d (D.s l_0), V.d (D.i IntKind.i64 n_1), V.d (D.i IntKind.i64 n_2), V.d (D.i IntKind.i64 n_3), V.d (D.l b_4 l_5)] [(4, 5)]])
              Tr.ret))
  (Tr.call
    (Task.at_ 79 1 [true, false, false, false] (sv 34 [(0, V.p 0 0), (1, V.f 82 []), (26, V.d (D.b false))]) []
      [Ob.cells [V.d (D.s l_0), V.d (D.i IntKind.i64 n_1), V.d (D.i IntKind.i64 n_2), V.d (D.i IntKind.i64 n_3), V.d (D.l b_4 l_5)] [(4, 5)]])
    Tr.ret)) :=
  rk_of (by kernel_rfl)
theorem t20_at1011 (n_0 : Int) (b_1 : Bool) (l_2 : List UInt8) (n_3 : Int) (n_4 : Int) (n_5 : Int) (b_6 : Bool) (l_7 : List D) :
    rk Tryd.prog pol (Task.at_ 20 1 [true, true, true, true, true, false, false, true, true] (sv 106 [(0, V.p 0 0), (3, V.d (D.i IntKind.i64 n_0)), (38, V.d (D.b b_1))]) []
  [Ob.cells [V.d (D.s l_2), V.d (D.i IntKind.i64 n_3), V.d (D.i IntKind.i64 n_4), V.d (D.i IntKind.i64 n_5), V.d (D.l b_6 l_7)] [(4, 5)]]) = interp (rk Tryd.prog pol) (
brB b_1
  (Tr.call (Task.call 42 [V.p 0 0, V.d (D.s [10])] [Ob.cells [V.d (D.s l_2), V.d (D.i IntKind.i64 n_3), V.d (D.i IntKind.i64 n_4), V.d (D.i IntKind.i64 n_5), V.d (D.l b_6 l_7)] [(4, 5)]])
    fun (o_0 : Out) =>
    unCons o_0.snd fun (x_1 : Ob) (l_2 : List Ob) =>
      unCells x_1 fun (l_3 : List V) (l_4 : Fl) =>
        ift (l_3.length == 5)
          (ift (l_4 == [(4, 5)])
            (unNil l_2
              (asD o_0.fst fun (d_5 : D) =>
                asB d_5 fun (b_6 : Bool) =>
                  brB (!b_6)
                    (ob l_3[0]? fun (v_7 : V) =>
                      asD v_7 fun (d_8 : D) =>
                        asS d_8 fun (l_9 : List UInt8) => ift (decide (1 < l_3.length) && true) (Tr.ret (V.d (D.b true), [Ob.cells (l_3.set 1 (V.d (D.i IntKind.i64 (↑l_9.length : Int)))) [(4, 5)]])))
                    (Tr.ret (V.d (D.b true), [Ob.cells l_3 [(4, 5)]]))))))
  (ob (getI l_2 n_3) fun (c_10 : UInt8) =>
    brB ((↑c_10.toNat : Int) == 47)
      (Tr.call (Task.call 41 [V.p 0 0, V.d (D.i IntKind.i64 1)] [Ob.cells [V.d (D.s l_2), V.d (D.i IntKind.i64 n_3), V.d (D.i IntKind.i64 n_4), V.d (D.i IntKind.i64 n_5), V.d (D.l b_6 l_7)] [(4, 5)]])
        fun (o_11 : Out) =>
        unCons o_11.snd fun (x_12 : Ob) (l_13 : List Ob) =>
          unCells x_12 fun (l_14 : List V) (l_15 : Fl) =>
            ift (l_14.length == 5)
              (ift (l_15 == [(4, 5)])
                (unNil l_13
                  (asD o_11.fst fun (d_16 : D) =>
                    asI IntKind.u8 d_16 fun (n_17 : Int) =>
                      Tr.call
                        (Task.at_ 20 1 [true, true, true, true, true, true, true, false, false, true, true] (sv 106 [(0, V.p 0 0), (3, V.d (D.i IntKind.i64 n_0)), (77, V.d (D.b (n_17 == 42)))]) []
                          [Ob.cells l_14 [(4, 5)]])
                        Tr.ret))))
      (Tr.call
        (Task.at_ 20 1 [true, true, true, true, true, true, true, false, false, true, true] (sv 106 [(0, V.p 0 0), (3, V.d (D.i IntKind.i64 n_0)), (77, V.d (D.b false))]) []
          [Ob.cells [V.d (D.s l_2), V.d (D.i IntKind.i64 n_3), V.d (D.i IntKind.i64 n_4), V.d (D.i IntKind.i64 n_5), V.d (D.l b_6 l_7)] [(4, 5)]])
        Tr.ret))) :=
  rk_of (by kernel_rfl)
theorem t20_at1011_1 (n_0 : Int) (b_1 : Bool) (l_2 : List V) :
    rk Tryd.prog pol (Task.at_ 20 1 [true, true, true, true, true, false, false, true, true] (sv 106 [(0, V.p 0 0), (3, V.d (D.i IntKind.i64 n_0)), (38, V.d (D.b b_1))]) [] [Ob.cells l_2 [(4, 5)]]) = interp (rk Tryd.prog pol) (
brB b_1
  (Tr.call (Task.call 42 [V.p 0 0, V.d (D.s [10])] [Ob.cells l_2 [(4, 5)]]) fun (o_0 : Out) =>
    unCons o_0.snd fun (x_1 : Ob) (l_2_1 : List Ob) =>
      unCells x_1 fun (l_3 : List V) (l_4 : Fl) =>
        ift (l_3.length == l_2.length)
          (ift (l_4 == [(4, 5)])
            (unNil l_2_1
              (asD o_0.fst fun (d_5 : D) =>
                asB d_5 fun (b_6 : Bool) =>
                  brB (!b_6)
                    (ob l_3[0]? fun (v_7 : V) =>
                      asD v_7 fun (d_8 : D) =>
                        asS d_8 fun (l_9 : List UInt8) => ift (decide (1 < l_3.length) && true) (Tr.ret (V.d (D.b true), [Ob.cells (l_3.set 1 (V.d (D.i IntKind.i64 (↑l_9.length : Int)))) [(4, 5)]])))
                    (Tr.ret (V.d (D.b true), [Ob.cells l_3 [(4, 5)]]))))))
  (ob l_2[0]? fun (v_10 : V) =>
    asD v_10 fun (d_11 : D) =>
      asS d_11 fun (l_12 : List UInt8) =>
        ob l_2[1]? fun (v_13 : V) =>
          asD v_13 fun (d_14 : D) =>
            asI IntKind.i64 d_14 fun (n_15 : Int) =>
              ob (getI l_12 n_15) fun (c_16 : UInt8) =>
                brB ((↑c_16.toNat : Int) == 47)
                  (Tr.call (Task.call 41 [V.p 0 0, V.d (D.i IntKind.i64 1)] [Ob.cells l_2 [(4, 5)]]) fun (o_17 : Out) =>
                    unCons o_17.snd fun (x_18 : Ob) (l_19 : List Ob) =>
                      unCells x_18 fun (l_20 : List V) (l_21 : Fl) =>
                        ift (l_20.length == l_2.length)
                          (ift (l_21 == [(4, 5)])
                            (unNil l_19
                              (asD o_17.fst fun (d_22 : D) =>
                                asI IntKind.u8 d_22 fun (n_23 : Int) =>
                                  Tr.call
                                    (Task.at_ 20 1 [true, true, true, true, true, true, true, false, false, true, true]
                                      (sv 106 [(0, V.p 0 0), (3, V.d (D.i IntKind.i64 n_0)), (77, V.d (D.b (n_23 == 42)))]) [] [Ob.cells l_20 [(4, 5)]])
                                    Tr.ret))))
                  (Tr.call
                    (Task.at_ 20 1 [true, true, true, true, true, true, true, false, false, true, true] (sv 106 [(0, V.p 0 0), (3, V.d (D.i IntKind.i64 n_0)), (77, V.d (D.b false))]) []
                      [Ob.cells l_2 [(4, 5)]])
                    Tr.ret))) :=
  rk_of (by kernel_rfl)
theorem t45_at31 (n_0 : Int) (l_1 : List UInt8) (l_2 : List V) :
    rk Tryd.prog pol (Task.at_ 45 1 [true, true, true, true] (sv 58 [(0, V.p 0 0), (2, V.d (D.i IntKind.i64 n_0)), (3, V.d (D.s l_1))]) [] [Ob.cells l_2 [(4, 5)]]) = interp (rk Tryd.prog pol) (
ob l_2[4]? fun (v_0 : V) =>
  asD
    ((sv 58
          [(0, V.p 0 0), (2, V.d (D.i IntKind.i64 n_0)), (3, V.d (D.s l_1)), (46, V.p 0 0), (47, V.p 0 0), (48, V.p 0 0), (49, V.p 0 4), (50, v_0), (51, V.d (D.s l_1)),
            (52, V.d (D.i IntKind.i64 n_0)), (53, V.d (D.g [D.i IntKind.i64 1, D.s l_1, D.i IntKind.i64 0, D.i IntKind.u64 0, D.i IntKind.i64 n_0])),
            (54, V.d (D.l true [D.g [D.i IntKind.i64 1, D.s l_1, D.i IntKind.i64 0, D.i IntKind.u64 0, D.i IntKind.i64 n_0]]))]).getD
      50 V.u)
    fun (d_1 : D) =>
    asL d_1 fun (b_2 : Bool) (l_3 : List D) =>
      ift (headOk 5 l_3)
        (ift (b_2 || true)
          (ift (decide (l_3.length + 1 ≤ 4294967296))
            (ift (decide (4 < l_2.length) && true)
              (Tr.ret (V.t [], [Ob.cells (l_2.set 4 (V.d (D.l (b_2 && false) (l_3 ++ [D.g [D.i IntKind.i64 1, D.s l_1, D.i IntKind.i64 0, D.i IntKind.u64 0, D.i IntKind.i64 n_0]])))) [(4, 5)]])))))) :=
  rk_of (by kernel_rfl)
theorem t45_at487 (n_0 : Int) (l_1 : List UInt8) (b_2 : Bool) (l_3 : List V) :
    rk Tryd.prog pol (Task.at_ 45 1 [true, true, true, false, false, true, true, true] (sv 58 [(0, V.p 0 0), (2, V.d (D.i IntKind.i64 n_0)), (3, V.d (D.s l_1)), (34, V.d (D.b b_2))]) [] [Ob.cells l_3 [(4, 5)]]) = interp (rk Tryd.prog pol) (
brB b_2
  (Tr.call (Task.call 43 [V.p 0 0, V.d (D.i IntKind.i64 2), V.d (D.i IntKind.i64 n_0)] [Ob.cells l_3 [(4, 5)]]) fun (o_0 : Out) =>
    unCons o_0.snd fun (x_1 : Ob) (l_2 : List Ob) =>
      unCells x_1 fun (l_3_1 : List V) (l_4 : Fl) =>
        ift (l_3_1.length == l_3.length)
          (ift (l_4 == [(4, 5)])
            (unNil l_2
              (unT o_0.fst fun (l_5 : List V) =>
                ift (l_5.length == 0)
                  (Tr.call (Task.at_ 45 1 [true, true, true, true] (sv 58 [(0, V.p 0 0), (2, V.d (D.i IntKind.i64 n_0)), (3, V.d (D.s l_1))]) [] [Ob.cells l_3_1 [(4, 5)]]) Tr.ret)))))
  (Tr.call (Task.at_ 45 1 [true, true, true, true] (sv 58 [(0, V.p 0 0), (2, V.d (D.i IntKind.i64 n_0)), (3, V.d (D.s l_1))]) [] [Ob.cells l_3 [(4, 5)]]) Tr.ret)) :=
  rk_of (by kernel_rfl)
theorem t84_at7 (b_0 : Bool) (l_1 : List V) :
    rk Tryd.prog pol (Task.at_ 84 1 [true, true] (sv 22 [(0, V.p 0 0), (12, V.d (D.b b_0))]) [] [Ob.cells l_1 [(4, 5)]]) = interp (rk Tryd.prog pol) (
brB b_0
  (ob l_1[1]? fun (v_0 : V) =>
    asD v_0 fun (d_1 : D) =>
      asI IntKind.i64 d_1 fun (n_2 : Int) =>
        Tr.call (Task.call 43 [V.p 0 0, V.d (D.i IntKind.i64 2), V.d (D.i IntKind.i64 n_2)] [Ob.cells l_1 [(4, 5)]]) fun (o_3 : Out) =>
          unCons o_3.snd fun (x_4 : Ob) (l_5 : List Ob) =>
            unCells x_4 fun (l_6 : List V) (l_7 : Fl) =>
              ift (l_6.length == l_1.length) (ift (l_7 == [(4, 5)]) (unNil l_5 (unT o_3.fst fun (l_8 : List V) => ift (l_8.length == 0) (Tr.ret (V.t [], [Ob.cells l_6 [(4, 5)]]))))))
  (Tr.ret (V.t [], [Ob.cells l_1 [(4, 5)]]))) :=
  rk_of (by kernel_rfl)
theorem t83_at127 (n_0 : Int) (n_1 : Int) (l_2 : List V) :
    rk Tryd.prog pol (Task.at_ 83 1 [true, true, true, true, true, true] (sv 71 [(0, V.p 0 0), (1, V.d (D.i IntKind.i64 n_0)), (6, V.d (D.i IntKind.u64 n_1))]) [] [Ob.cells l_2 [(4, 5)]]) = interp (rk Tryd.prog pol) (
brB (n_1.fdiv 9223372036854775808 != 0)
  (Tr.call (Task.call 43 [V.p 0 0, V.d (D.i IntKind.i64 5), V.d (D.i IntKind.i64 n_0)] [Ob.cells l_2 [(4, 5)]]) fun (o_0 : Out) =>
    unCons o_0.snd fun (x_1 : Ob) (l_2_1 : List Ob) =>
      unCells x_1 fun (l_3 : List V) (l_4 : Fl) =>
        ift (l_3.length == l_2.length)
          (ift (l_4 == [(4, 5)])
            (unNil l_2_1
              (unT o_0.fst fun (l_5 : List V) =>
                ift (l_5.length == 0)
                  (Tr.call (Task.at_ 83 1 [true, true, true, true, true, true, true] (sv 71 [(0, V.p 0 0), (1, V.d (D.i IntKind.i64 n_0)), (6, V.d (D.i IntKind.u64 n_1))]) [] [Ob.cells l_3 [(4, 5)]])
                    Tr.ret)))))
  (Tr.call (Task.at_ 83 1 [true, true, true, true, true, true, true] (sv 71 [(0, V.p 0 0), (1, V.d (D.i IntKind.i64 n_0)), (6, V.d (D.i IntKind.u64 n_1))]) [] [Ob.cells l_2 [(4, 5)]]) Tr.ret)) :=
  rk_of (by kernel_rfl)
theorem t85_at27 (b_0 : Bool) (b_1 : Bool) (l_2 : List V) :
    rk Tryd.prog pol (Task.at_ 85 1 [true, false, true, true] (sv 73 [(0, V.p 0 0), (3, V.d (D.b b_0)), (18, V.d (D.b b_1))]) [] [Ob.cells l_2 [(4, 5)]]) = interp (rk Tryd.prog pol) (
brB b_1
  (ob l_2[1]? fun (v_0 : V) =>
    asD v_0 fun (d_1 : D) =>
      asI IntKind.i64 d_1 fun (n_2 : Int) =>
        ift (decide (1 < l_2.length) && true)
          (Tr.call (Task.call 79 [V.p 0 0, V.f 46 []] [Ob.cells (l_2.set 1 (V.d (D.i IntKind.i64 (IntKind.i64.wrap (n_2 + 1))))) [(4, 5)]]) fun (o_3 : Out) =>
            unCons o_3.snd fun (x_4 : Ob) (l_5 : List Ob) =>
              unCells x_4 fun (l_6 : List V) (l_7 : Fl) =>
                ift (l_6.length == (l_2.set 1 (V.d (D.i IntKind.i64 (IntKind.i64.wrap (n_2 + 1))))).length)
                  (ift (l_7 == [(4, 5)])
                    (unNil l_5
                      (unT o_3.fst fun (l_8 : List V) =>
                        ift (l_8.length == 0)
                          (Tr.call (Task.call 41 [V.p 0 0, V.d (D.i IntKind.i64 0)] [Ob.cells l_6 [(4, 5)]]) fun (o_9 : Out) =>
                            unCons o_9.snd fun (x_10 : Ob) (l_11 : List Ob) =>
                              unCells x_10 fun (l_12 : List V) (l_13 : Fl) =>
                                ift (l_12.length == l_6.length)
                                  (ift (l_13 == [(4, 5)])
                                    (unNil l_11
                                      (asD o_9.fst fun (d_14 : D) =>
                                        asI IntKind.u8 d_14 fun (n_15 : Int) =>
                                          brB (n_15 == 101)
                                            (Tr.call (Task.at_ 85 1 [true, true, false, true, true, true] (sv 73 [(0, V.p 0 0), (3, V.d (D.b true)), (41, V.d (D.b true))]) [] [Ob.cells l_12 [(4, 5)]])
                                              Tr.ret)
                                            (Tr.call
                                              (Task.at_ 85 1 [true, true, false, true, true, true] (sv 73 [(0, V.p 0 0), (3, V.d (D.b true)), (41, V.d (D.b (n_15 == 69)))]) []
                                                [Ob.cells l_12 [(4, 5)]])
                                              Tr.ret))))))))))
  (Tr.call (Task.call 41 [V.p 0 0, V.d (D.i IntKind.i64 0)] [Ob.cells l_2 [(4, 5)]]) fun (o_16 : Out) =>
    unCons o_16.snd fun (x_17 : Ob) (l_18 : List Ob) =>
      unCells x_17 fun (l_19 : List V) (l_20 : Fl) =>
        ift (l_19.length == l_2.length)
          (ift (l_20 == [(4, 5)])
            (unNil l_18
              (asD o_16.fst fun (d_21 : D) =>
                asI IntKind.u8 d_21 fun (n_22 : Int) =>
                  brB (n_22 == 101) (Tr.call (Task.at_ 85 1 [true, true, false, true, true, true] (sv 73 [(0, V.p 0 0), (3, V.d (D.b b_0)), (41, V.d (D.b true))]) [] [Ob.cells l_19 [(4, 5)]]) Tr.ret)
                    (Tr.call (Task.at_ 85 1 [true, true, false, true, true, true] (sv 73 [(0, V.p 0 0), (3, V.d (D.b b_0)), (41, V.d (D.b (n_22 == 69)))]) [] [Ob.cells l_19 [(4, 5)]]) Tr.ret)))))) :=
  rk_of (by kernel_rfl)
theorem t86_at351 (b_0 : Bool) (l_1 : List UInt8) (n_2 : Int) (l_3 : List UInt8) :
    rk Tryd.prog pol (Task.at_ 86 0 [false, true, false, true, true, true, true, true] (sv 40 [(4, V.d (D.b b_0)), (5, V.d (D.s l_1)), (6, V.d (D.i IntKind.u64 n_2)), (18, V.it 0)]) [] [Ob.iter l_3 0]) = interp (rk Tryd.prog pol) (
brB (decide (0 < l_3.length))
  (ob (getI l_1 0) fun (c_0 : UInt8) =>
    Tr.call
      (Task.at_ 86 0 [false, true, false, true, true, true, true, true]
        (sv 40
          [(4, V.d (D.b b_0)), (5, V.d (D.s l_1)), (6, V.d (D.i IntKind.u64 (IntKind.u64.wrap (IntKind.u64.wrap (10 * n_2) + IntKind.u64.wrap (IntKind.u8.wrap ((↑c_0.toNat : Int) - 48)))))),
            (18, V.it 0)])
        [] [Ob.iter l_3 (0 + (Utf8.decode (ByteArray.mk l_3.toArray) 0).snd)])
      Tr.ret)
  (brB b_0 (Tr.ret (V.t [V.d (D.i IntKind.i64 (IntKind.i64.wrap (0 - IntKind.i64.wrap n_2))), V.d (D.b (decide (n_2 ≤ 9223372036854775808)))], []))
    (Tr.ret (V.t [V.d (D.i IntKind.i64 (IntKind.i64.wrap n_2)), V.d (D.b (decide (n_2 < 9223372036854775808)))], [])))) :=
  rk_of (by kernel_rfl)
theorem t47_at13 (n_0 : Int) (b_1 : Bool) (l_2 : List UInt8) (n_3 : Int) (n_4 : Int) (n_5 : Int) (b_6 : Bool) (l_7 : List D) :
    rk Tryd.prog pol (Task.at_ 47 1 [true, false, true] (sv 192 [(0, V.p 0 0), (2, V.d (D.i IntKind.i64 n_0)), (42, V.d (D.b b_1))]) []
  [Ob.cells [V.d (D.s l_2), V.d (D.i IntKind.i64 n_3), V.d (D.i IntKind.i64 n_4), V.d (D.i IntKind.i64 n_5), V.d (D.l b_6 l_7)] [(4, 5)]]) = interp (rk Tryd.prog pol) (
brB b_1
  (Tr.call
    (Task.call 41 [V.p 0 0, V.d (D.i IntKind.i64 0)]
      [Ob.cells [V.d (D.s l_2), V.d (D.i IntKind.i64 (IntKind.i64.wrap (n_3 + 1))), V.d (D.i IntKind.i64 n_4), V.d (D.i IntKind.i64 n_5), V.d (D.l b_6 l_7)] [(4, 5)]])
    fun (o_0 : Out) =>
    unCons o_0.snd fun (x_1 : Ob) (l_2 : List Ob) =>
      unCells x_1 fun (l_3 : List V) (l_4 : Fl) =>
        ift (l_3.length == 5)
          (ift (l_4 == [(4, 5)])
            (unNil l_2
              (asD o_0.fst fun (d_5 : D) =>
                asI IntKind.u8 d_5 fun (n_6 : Int) =>
                  Tr.call (Task.call 46 [V.d (D.i IntKind.u8 n_6)] []) fun (o_7 : Out) =>
                    ift o_7.snd.isEmpty
                      (asD o_7.fst fun (d_8 : D) =>
                        asB d_8 fun (b_9 : Bool) =>
                          brB (!b_9)
                            (Tr.call (Task.call 41 [V.p 0 0, V.d (D.i IntKind.i64 0)] [Ob.cells l_3 [(4, 5)]]) fun (o_10 : Out) =>
                              unCons o_10.snd fun (x_11 : Ob) (l_12 : List Ob) =>
                                unCells x_11 fun (l_13 : List V) (l_14 : Fl) =>
                                  ift (l_13.length == l_3.length)
                                    (ift (l_14 == [(4, 5)])
                                      (unNil l_12
                                        (asD o_10.fst fun (d_15 : D) =>
                                          asI IntKind.u8 d_15 fun (n_16 : Int) =>
                                            brB (n_16 == 46)
                                              (Tr.call (Task.call 41 [V.p 0 0, V.d (D.i IntKind.i64 1)] [Ob.cells l_13 [(4, 5)]]) fun (o_17 : Out) =>
                                                unCons o_17.snd fun (x_18 : Ob) (l_19 : List Ob) =>
                                                  unCells x_18 fun (l_20 : List V) (l_21 : Fl) =>
                                                    ift (l_20.length == l_13.length)
                                                      (ift (l_21 == [(4, 5)])
                                                        (unNil l_19
                                                          (asD o_17.fst fun (d_22 : D) =>
                                                            asI IntKind.u8 d_22 fun (n_23 : Int) =>
                                                              Tr.call (Task.call 46 [V.d (D.i IntKind.u8 n_23)] []) fun (o_24 : Out) =>
                                                                ift o_24.snd.isEmpty
                                                                  (asD o_24.fst fun (d_25 : D) =>
                                                                    asB d_25 fun (b_26 : Bool) =>
                                                                      Tr.call
                                                                        (Task.at_ 47 1 [true, false, true, true] (sv 192 [(0, V.p 0 0), (2, V.d (D.i IntKind.i64 n_0)), (103, V.d (D.b !b_26))]) []
                                                                          [Ob.cells l_20 [(4, 5)]])
                                                                        Tr.ret)))))
                                              (Tr.call
                                                (Task.at_ 47 1 [true, false, true, true] (sv 192 [(0, V.p 0 0), (2, V.d (D.i IntKind.i64 n_0)), (103, V.d (D.b true))]) [] [Ob.cells l_13 [(4, 5)]])
                                                Tr.ret)))))
                            (Tr.call (Task.at_ 47 1 [true, false, true, true] (sv 192 [(0, V.p 0 0), (2, V.d (D.i IntKind.i64 n_0)), (103, V.d (D.b false))]) [] [Ob.cells l_3 [(4, 5)]]) Tr.ret))))))
  (ob (getI l_2 n_3) fun (c_27 : UInt8) =>
    brB ((↑c_27.toNat : Int) == 48)
      (Tr.call (Task.call 41 [V.p 0 0, V.d (D.i IntKind.i64 1)] [Ob.cells [V.d (D.s l_2), V.d (D.i IntKind.i64 n_3), V.d (D.i IntKind.i64 n_4), V.d (D.i IntKind.i64 n_5), V.d (D.l b_6 l_7)] [(4, 5)]])
        fun (o_28 : Out) =>
        unCons o_28.snd fun (x_29 : Ob) (l_30 : List Ob) =>
          unCells x_29 fun (l_31 : List V) (l_32 : Fl) =>
            ift (l_31.length == 5)
              (ift (l_32 == [(4, 5)])
                (unNil l_30
                  (asD o_28.fst fun (d_33 : D) =>
                    asI IntKind.u8 d_33 fun (n_34 : Int) =>
                      brB (n_34 == 120)
                        (Tr.call (Task.call 41 [V.p 0 0, V.d (D.i IntKind.i64 2)] [Ob.cells l_31 [(4, 5)]]) fun (o_35 : Out) =>
                          unCons o_35.snd fun (x_36 : Ob) (l_37 : List Ob) =>
                            unCells x_36 fun (l_38 : List V) (l_39 : Fl) =>
                              ift (l_38.length == l_31.length)
                                (ift (l_39 == [(4, 5)])
                                  (unNil l_37
                                    (asD o_35.fst fun (d_40 : D) =>
                                      asI IntKind.u8 d_40 fun (n_41 : Int) =>
                                        Tr.call (Task.call 82 [V.d (D.i IntKind.u8 n_41)] []) fun (o_42 : Out) =>
                                          ift o_42.snd.isEmpty
                                            (asD o_42.fst fun (d_43 : D) =>
                                              asB d_43 fun (b_44 : Bool) =>
                                                Tr.call
                                                  (Task.at_ 47 1 [true, true, true, false, true] (sv 192 [(0, V.p 0 0), (2, V.d (D.i IntKind.i64 n_0)), (77, V.d (D.b b_44))]) []
                                                    [Ob.cells l_38 [(4, 5)]])
                                                  Tr.ret)))))
                        (Tr.call (Task.at_ 47 1 [true, true, true, false, true] (sv 192 [(0, V.p 0 0), (2, V.d (D.i IntKind.i64 n_0)), (77, V.d (D.b false))]) [] [Ob.cells l_31 [(4, 5)]]) Tr.ret)))))
      (Tr.call
        (Task.at_ 47 1 [true, true, true, false, true] (sv 192 [(0, V.p 0 0), (2, V.d (D.i IntKind.i64 n_0)), (77, V.d (D.b false))]) []
          [Ob.cells [V.d (D.s l_2), V.d (D.i IntKind.i64 n_3), V.d (D.i IntKind.i64 n_4), V.d (D.i IntKind.i64 n_5), V.d (D.l b_6 l_7)] [(4, 5)]])
        Tr.ret))) :=
  rk_of (by kernel_rfl)
theorem t48_at55 (n_0 : Int) (n_1 : Int) (b_2 : Bool) (l_3 : List UInt8) (n_4 : Int) (n_5 : Int) (n_6 : Int) (b_7 : Bool) (l_8 : List D) :
    rk Tryd.prog pol (Task.at_ 48 1 [true, false, true, true, true] (sv 100 [(0, V.p 0 0), (2, V.d (D.i IntKind.i64 n_0)), (4, V.d (D.i IntKind.i64 n_1)), (60, V.d (D.b b_2))]) []
  [Ob.cells [V.d (D.s l_3), V.d (D.i IntKind.i64 n_4), V.d (D.i IntKind.i64 n_5), V.d (D.i IntKind.i64 n_6), V.d (D.l b_7 l_8)] [(4, 5)]]) = interp (rk Tryd.prog pol) (
brB b_2
  (Tr.call
    (Task.call 43 [V.p 0 0, V.d (D.i IntKind.i64 2), V.d (D.i IntKind.i64 n_0)]
      [Ob.cells [V.d (D.s l_3), V.d (D.i IntKind.i64 n_4), V.d (D.i IntKind.i64 n_5), V.d (D.i IntKind.i64 n_6), V.d (D.l b_7 l_8)] [(4, 5)]])
    fun (o_0 : Out) =>
    unCons o_0.snd fun (x_1 : Ob) (l_2 : List Ob) =>
      unCells x_1 fun (l_3 : List V) (l_4 : Fl) =>
        ift (l_3.length == 5) (ift (l_4 == [(4, 5)]) (unNil l_2 (unT o_0.fst fun (l_5 : List V) => ift (l_5.length == 0) (Tr.ret (V.t [], [Ob.cells l_3 [(4, 5)]]))))))
  (ift (decide (0 ≤ IntKind.i64.wrap (IntKind.i64.wrap (n_0 + 1) + n_1) ∧ IntKind.i64.wrap (IntKind.i64.wrap (n_0 + 1) + n_1) ≤ (↑l_3.length : Int)))
    (ift (decide (0 ≤ IntKind.i64.wrap (n_0 + 1) ∧ IntKind.i64.wrap (n_0 + 1) ≤ (↑(IntKind.i64.wrap (IntKind.i64.wrap (n_0 + 1) + n_1)).toNat : Int)))
      (ift (headOk 5 l_8)
        (ift (b_7 || true)
          (ift (decide (l_8.length + 1 ≤ 4294967296))
            (Tr.ret
              (V.t [],
                [Ob.cells
                    [V.d (D.s l_3), V.d (D.i IntKind.i64 (IntKind.i64.wrap (n_4 + IntKind.i64.wrap (n_1 + 2)))), V.d (D.i IntKind.i64 n_5), V.d (D.i IntKind.i64 n_6),
                      V.d
                        (D.l (b_7 && false)
                          (l_8 ++
                            [D.g
                                [D.i IntKind.i64 4,
                                  D.s (List.take ((IntKind.i64.wrap (IntKind.i64.wrap (n_0 + 1) + n_1)).toNat - (IntKind.i64.wrap (n_0 + 1)).toNat) (List.drop (IntKind.i64.wrap (n_0 + 1)).toNat l_3)),
                                  D.i IntKind.i64 0, D.i IntKind.u64 0, D.i IntKind.i64 n_0]]))]
                    [(4, 5)]])))))))) :=
  rk_of (by kernel_rfl)
theorem t21_at61 (n_0 : Int) (b_1 : Bool) (l_2 : List UInt8) (n_3 : Int) (n_4 : Int) (n_5 : Int) (b_6 : Bool) (l_7 : List D) :
    rk Tryd.prog pol (Task.at_ 21 1 [true, true, true, false, true] (sv 85 [(0, V.p 0 0), (2, V.d (D.i IntKind.u8 n_0)), (28, V.d (D.b b_1))]) []
  [Ob.cells [V.d (D.s l_2), V.d (D.i IntKind.i64 n_3), V.d (D.i IntKind.i64 n_4), V.d (D.i IntKind.i64 n_5), V.d (D.l b_6 l_7)] [(4, 5)]]) = interp (rk Tryd.prog pol) (
brB b_1
  (Tr.call (Task.call 47 [V.p 0 0] [Ob.cells [V.d (D.s l_2), V.d (D.i IntKind.i64 n_3), V.d (D.i IntKind.i64 n_4), V.d (D.i IntKind.i64 n_5), V.d (D.l b_6 l_7)] [(4, 5)]]) fun (o_0 : Out) =>
    unCons o_0.snd fun (x_1 : Ob) (l_2 : List Ob) =>
      unCells x_1 fun (l_3 : List V) (l_4 : Fl) =>
        ift (l_3.length == 5) (ift (l_4 == [(4, 5)]) (unNil l_2 (unT o_0.fst fun (l_5 : List V) => ift (l_5.length == 0) (Tr.ret (V.t [], [Ob.cells l_3 [(4, 5)]]))))))
  (brB (n_0 == 34)
    (Tr.call
      (Task.at_ 21 1 [true, true, true, true, true, false, true] (sv 85 [(0, V.p 0 0), (2, V.d (D.i IntKind.u8 n_0)), (45, V.d (D.b true))]) []
        [Ob.cells [V.d (D.s l_2), V.d (D.i IntKind.i64 n_3), V.d (D.i IntKind.i64 n_4), V.d (D.i IntKind.i64 n_5), V.d (D.l b_6 l_7)] [(4, 5)]])
      Tr.ret)
    (Tr.call
      (Task.at_ 21 1 [true, true, true, true, true, false, true] (sv 85 [(0, V.p 0 0), (2, V.d (D.i IntKind.u8 n_0)), (45, V.d (D.b (n_0 == 39)))]) []
        [Ob.cells [V.d (D.s l_2), V.d (D.i IntKind.i64 n_3), V.d (D.i IntKind.i64 n_4), V.d (D.i IntKind.i64 n_5), V.d (D.l b_6 l_7)] [(4, 5)]])
      Tr.ret))) :=
  rk_of (by kernel_rfl)
theorem t10_at23 (l_0 : List UInt8) (l_1 : List UInt8) (n_2 : Int) (n_3 : Int) (n_4 : Int) (b_5 : Bool) (l_6 : List D) :
    rk Tryd.prog pol (Task.at_ 10 0 [false, true, true, true] (sv 72 [(0, V.d (D.s l_0)), (5, V.p 0 0)]) []
  [Ob.cells [V.d (D.s l_1), V.d (D.i IntKind.i64 n_2), V.d (D.i IntKind.i64 n_3), V.d (D.i IntKind.i64 n_4), V.d (D.l b_5 l_6)] [(4, 5)]]) = interp (rk Tryd.prog pol) (
Tr.call
  (Task.at_ 10 0 [false, false, false, false, false, true, true, true] (sv 72 [(0, V.d (D.s l_0)), (5, V.p 0 0)]) []
    [Ob.cells [V.d (D.s l_1), V.d (D.i IntKind.i64 n_2), V.d (D.i IntKind.i64 n_3), V.d (D.i IntKind.i64 n_4), V.d (D.l b_5 l_6)] [(4, 5)]])
  Tr.ret) :=
  rk_of (by kernel_rfl)
theorem t4_at351 (l_0 : List UInt8) (b_1 : Bool) (l_2 : List D) (n_3 : Int) :
    rk Tryd.prog pol (Task.at_ 4 0 [false, true, false, true, true, true, true, true] (sv 148 [(0, V.d (D.s l_0)), (3, V.d (D.l b_1 l_2)), (6, V.d (D.i IntKind.i64 n_3))]) [] []) = interp (rk Tryd.prog pol) (
brB (decide (n_3 < (↑l_2.length : Int)))
  (ob (getI l_2 n_3) fun (d_0 : D) =>
    ift (d_0.width == 5)
      (ob l_2[n_3.toNat]? fun (d_1 : D) =>
        ob d_1.cells[4]? fun (d_2 : D) =>
          asI IntKind.i64 d_2 fun (n_3_1 : Int) =>
            brB (decide (n_3_1 < 0))
              (Tr.call
                (Task.at_ 4 0 [true, false, false, false, true, false, false, true, false, true, true, true, true, true]
                  (sv 148 [(0, V.d (D.s l_0)), (3, V.d (D.l b_1 l_2)), (6, V.d (D.i IntKind.i64 n_3)), (86, V.d (D.b true))]) [] [])
                Tr.ret)
              (ob (getI l_2 n_3) fun (d_4 : D) =>
                ift (d_4.width == 5)
                  (ob l_2[n_3.toNat]? fun (d_5 : D) =>
                    ob d_5.cells[4]? fun (d_6 : D) =>
                      asI IntKind.i64 d_6 fun (n_7 : Int) =>
                        brB (decide (n_7 > (↑l_0.length : Int)))
                          (Tr.call
                            (Task.at_ 4 0 [true, false, false, false, true, false, false, true, false, true, true, true, true, true]
                              (sv 148 [(0, V.d (D.s l_0)), (3, V.d (D.l b_1 l_2)), (6, V.d (D.i IntKind.i64 n_3)), (86, V.d (D.b true))]) [] [])
                            Tr.ret)
                          (brB (decide (n_3 > 0))
                            (ob (getI l_2 n_3) fun (d_8 : D) =>
                              ift (d_8.width == 5)
                                (ob l_2[n_3.toNat]? fun (d_9 : D) =>
                                  ob d_9.cells[4]? fun (d_10 : D) =>
                                    asI IntKind.i64 d_10 fun (n_11 : Int) =>
                                      ob (getI l_2 (IntKind.i64.wrap (n_3 - 1))) fun (d_12 : D) =>
                                        ift (d_12.width == 5)
                                          (ob l_2[(IntKind.i64.wrap (n_3 - 1)).toNat]? fun (d_13 : D) =>
                                            ob d_13.cells[4]? fun (d_14 : D) =>
                                              asI IntKind.i64 d_14 fun (n_15 : Int) =>
                                                brB (decide (n_11 ≤ n_15))
                                                  (Tr.call
                                                    (Task.at_ 4 0 [true, false, false, false, true, false, false, true, false, true, true, true, true, true]
                                                      (sv 148 [(0, V.d (D.s l_0)), (3, V.d (D.l b_1 l_2)), (6, V.d (D.i IntKind.i64 n_3)), (86, V.d (D.b true))]) [] [])
                                                    Tr.ret)
                                                  (ob (getI l_2 n_3) fun (d_16 : D) =>
                                                    ift (d_16.width == 5)
                                                      (ob l_2[n_3.toNat]? fun (d_17 : D) =>
                                                        ob d_17.cells[0]? fun (d_18 : D) =>
                                                          asI IntKind.i64 d_18 fun (n_19 : Int) =>
                                                            Tr.call
                                                              (Task.at_ 4 0 [true, false, false, false, true, false, false, true, false, true, true, true, true, true]
                                                                (sv 148
                                                                  [(0, V.d (D.s l_0)), (3, V.d (D.l b_1 l_2)), (6, V.d (D.i IntKind.i64 n_3)),
                                                                    (86, V.d (D.b !(n_19 == 6) == (n_3 == IntKind.i64.wrap ((↑l_2.length : Int) - 1))))])
                                                                [] [])
                                                              Tr.ret)))))
                            (ob (getI l_2 n_3) fun (d_20 : D) =>
                              ift (d_20.width == 5)
                                (ob l_2[n_3.toNat]? fun (d_21 : D) =>
                                  ob d_21.cells[0]? fun (d_22 : D) =>
                                    asI IntKind.i64 d_22 fun (n_23 : Int) =>
                                      Tr.call
                                        (Task.at_ 4 0 [true, false, false, false, true, false, false, true, false, true, true, true, true, true]
                                          (sv 148
                                            [(0, V.d (D.s l_0)), (3, V.d (D.l b_1 l_2)), (6, V.d (D.i IntKind.i64 n_3)),
                                              (86, V.d (D.b !(n_23 == 6) == (n_3 == IntKind.i64.wrap ((↑l_2.length : Int) - 1))))])
                                          [] [])
                                        Tr.ret)))))))
  (Tr.ret (V.d (D.b (decide ((↑l_2.length : Int) > 0))), []))) :=
  rk_of (by kernel_rfl)
theorem t5_at351 (b_0 : Bool) (l_1 : List D) (b_2 : Bool) (l_3 : List D) (b_4 : Bool) (l_5 : List D) (n_6 : Int) :
    rk Tryd.prog pol (Task.at_ 5 0 [false, true, false, true, true, true, true, true] (sv 110 [(1, V.d (D.l b_0 l_1)), (2, V.d (D.l b_2 l_3)), (3, V.d (D.l b_4 l_5)), (4, V.d (D.i IntKind.i64 n_6))]) [] []) = interp (rk Tryd.prog pol) (
brB (decide (n_6 < (↑l_1.length : Int)))
  (ob (getI l_1 n_6) fun (d_0 : D) =>
    ift (d_0.width == 1)
      (ob l_1[n_6.toNat]? fun (d_1 : D) =>
        ob d_1.cells[0]? fun (d_2 : D) =>
          asS d_2 fun (l_3_1 : List UInt8) =>
            Tr.call (Task.call 10 [V.d (D.s l_3_1)] []) fun (o_4 : Out) =>
              ift o_4.snd.isEmpty
                (unT o_4.fst fun (l_5_1 : List V) =>
                  ift (l_5_1.length == 3)
                    (asD (l_5_1.getD 0 (V.d (D.b false))) fun (d_6 : D) =>
                      asL d_6 fun (b_7 : Bool) (l_8 : List D) =>
                        asD (l_5_1.getD 1 (V.d (D.b false))) fun (d_9 : D) =>
                          asI IntKind.i64 d_9 fun (n_10 : Int) =>
                            asD (l_5_1.getD 2 (V.d (D.b false))) fun (d_11 : D) =>
                              asI IntKind.i64 d_11 fun (n_12 : Int) =>
                                ob (getI l_3 n_6) fun (d_13 : D) =>
                                  ift (d_13.width == 1)
                                    (ob l_3[n_6.toNat]? fun (d_14 : D) =>
                                      ob d_14.cells[0]? fun (d_15 : D) =>
                                        asI IntKind.i64 d_15 fun (n_16 : Int) =>
                                          brB (n_10 != n_16)
                                            (Tr.call
                                              (Task.at_ 5 0 [true, true, false, false, true, false, false, true, false, true, true, true, true, true]
                                                (sv 110 [(1, V.d (D.l b_0 l_1)), (2, V.d (D.l b_2 l_3)), (3, V.d (D.l b_4 l_5)), (4, V.d (D.i IntKind.i64 n_6)), (47, V.d (D.b true))]) [] [])
                                              Tr.ret)
                                            (ob (getI l_5 n_6) fun (d_17 : D) =>
                                              ift (d_17.width == 1)
                                                (ob l_5[n_6.toNat]? fun (d_18 : D) =>
                                                  ob d_18.cells[0]? fun (d_19 : D) =>
                                                    asI IntKind.i64 d_19 fun (n_20 : Int) =>
                                                      Tr.call
                                                        (Task.at_ 5 0 [true, true, false, false, true, false, false, true, false, true, true, true, true, true]
                                                          (sv 110
                                                            [(1, V.d (D.l b_0 l_1)), (2, V.d (D.l b_2 l_3)), (3, V.d (D.l b_4 l_5)), (4, V.d (D.i IntKind.i64 n_6)), (47, V.d (D.b (n_12 != n_20)))])
                                                          [] [])
                                                        Tr.ret)))))))
  (Tr.call
    (Task.call 10
      [V.d
          (D.s
            [0, 0, 0, 0, 0, 0, 0, 0, 0, 0, 0, 0, 0, 0, 0, 0, 0, 0, 0, 0, 0, 0, 0, 0, 0, 0, 0, 0, 0, 0, 0, 0, 0, 0, 0, 0, 0, 0, 0, 0, 0, 0, 0, 0, 0, 0, 0, 0, 0, 0, 0, 0, 0, 0, 0, 0, 0, 0, 0, 0, 0, 0,
              0, 0, 0, 0, 0, 0, 0, 0, 0, 0, 0, 0, 0, 0, 0, 0, 0, 0, 0, 0, 0, 0, 0, 0, 0, 0, 0, 0, 0, 0, 0, 0, 0, 0, 0, 0, 0, 0, 0, 0, 0, 0, 0, 0, 0, 0, 0, 0, 0, 0, 0, 0, 0, 0, 0, 0, 0, 0, 0, 0, 0, 0,
              0, 0, 0, 0, 0, 0, 0, 0, 0, 0, 0, 0, 0, 0, 0, 0, 0, 0, 0, 0, 0, 0, 0, 0, 0, 0, 0, 0, 0, 0, 0, 0, 0, 0, 0, 0, 0, 0, 0, 0, 0, 0, 0, 0, 0, 0, 0, 0, 0, 0, 0, 0, 0, 0, 0, 0, 0, 0, 0, 0, 0, 0,
              0, 0, 0, 0, 0, 0, 0, 0, 0, 0, 0, 0, 0, 0, 0, 0, 0, 0, 0, 0, 0, 0, 0, 0, 0, 0, 0, 0, 0, 0, 0, 0, 0, 0, 0, 0, 0, 0, 0, 0, 0, 0, 0, 0, 0, 0, 0, 0, 0, 0, 0, 0, 0, 0, 0, 0, 0, 0, 0, 0, 0, 0,
              0, 0, 0, 0, 0, 0, 0, 0, 0, 0, 0, 0, 0, 0, 0, 0, 0, 0, 0, 0, 0, 0, 0, 0, 0, 0, 0, 0, 0, 0, 0, 0, 0, 0, 0, 0, 0, 0, 0, 0, 0, 0, 0, 0, 0, 0, 0, 0, 0, 0, 0, 0, 0, 0, 0, 0, 0, 0, 0, 0, 0, 0,
              0, 0, 0, 0, 0, 0, 0, 0, 0, 0, 0, 0, 0, 0, 0, 0, 0, 0, 0, 0, 0, 0, 0, 0, 0, 0, 0, 0, 0, 0, 0, 0, 0, 0, 0, 0, 0, 0, 0, 0, 0, 0, 0, 0, 0, 0, 0, 0, 0, 0, 0, 0, 0, 0, 0, 0, 0, 0, 0, 0, 0, 0,
              0, 0, 0, 0, 0, 0, 0, 0, 0, 0, 0, 0, 0, 0, 0, 0, 0, 0, 0, 0, 0, 0, 0, 0, 0, 0, 0, 0, 0, 0, 0, 0, 0, 0, 0, 0, 0, 0, 0, 0, 0, 0, 0, 0, 0, 0, 0, 0, 0, 0, 0, 0, 0, 0, 0, 0, 0, 0, 0, 0, 0, 0,
              0, 0, 0, 0, 0, 0, 0, 0, 0, 0, 0, 0, 0, 0, 0, 0, 0, 0, 0, 0, 0, 0, 0, 0, 0, 0, 0, 0, 0, 0, 0, 0, 0, 0, 0, 0, 0, 0, 0, 0, 0, 0, 0, 0, 0, 0, 0, 0, 0, 0, 0, 0, 0, 0, 0, 0, 0, 0, 0, 0, 0, 0,
              0, 0, 0, 0, 0, 0, 0, 0, 0, 0, 0, 0, 0, 0, 0, 0, 0, 0, 0, 0, 0, 0, 0, 0, 0, 0, 0, 0, 0, 0, 0, 0, 0, 0, 0, 0, 0, 0, 0, 0, 0, 0, 0, 0, 0, 0, 0, 0, 0, 0, 0, 0, 0, 0, 0, 0, 0, 0, 0, 0, 0, 0,
              0, 0, 0, 0, 0, 0, 0, 0, 0, 0, 0, 0, 0, 0, 0, 0, 0, 0, 0, 0, 0, 0, 0, 0, 0, 0, 0, 0, 0, 0, 0, 0, 0, 0, 0, 0, 0, 0, 0, 0, 0, 0, 0, 0, 0, 0, 0, 0, 0, 0, 0, 0, 0, 0, 0, 0, 0, 0, 0, 0, 0, 0,
              0, 0, 0, 0, 0, 0, 0, 0, 0, 0, 0, 0, 0, 0, 0, 0, 0, 0, 0, 0, 0, 0, 0, 0, 0, 0, 0, 0, 0, 0, 0, 0, 0, 0, 0, 0, 0, 0, 0, 0, 0, 0, 0, 0, 0, 0, 0, 0, 0, 0, 0, 0, 0, 0, 0, 0, 0, 0, 0, 0, 0, 0,
              0, 0, 0, 0, 0, 0, 0, 0, 0, 0, 0, 0, 0, 0, 0, 0, 0, 0, 0, 0, 0, 0, 0, 0, 0, 0, 0, 0, 0, 0, 0, 0, 0, 0, 0, 0, 0, 0, 0, 0, 0, 0, 0, 0, 0, 0, 0, 0, 0, 0, 0, 0, 0, 0, 0, 0, 0, 0, 0, 0, 0, 0,
              0, 0, 0, 0, 0, 0, 0, 0, 0, 0, 0, 0, 0, 0, 0, 0, 0, 0, 0, 0, 0, 0, 0, 0, 0, 0, 0, 0, 0, 0, 0, 0, 0, 0, 0, 0, 0, 0, 0, 0, 0, 0, 0, 0, 0, 0, 0, 0, 0, 0, 0, 0, 0, 0, 0, 0, 0, 0, 0, 0, 0, 0,
              0, 0, 0, 0, 0, 0, 0, 0, 0, 0, 0, 0, 0, 0, 0, 0, 0, 0, 0, 0, 0, 0, 0, 0, 0, 0, 0, 0, 0, 0, 0, 0, 0, 0, 0, 0, 0, 0, 0, 0, 0, 0, 0, 0, 0, 0, 0, 0, 0, 0, 0, 0, 0, 0, 0, 0, 0, 0, 0, 0, 0, 0,
              0, 0, 0, 0, 0, 0, 0, 0, 0, 0, 0, 0, 0, 0, 0, 0, 0, 0, 0, 0, 0, 0, 0, 0, 0, 0, 0, 0, 0, 0, 0, 0, 0, 0, 0, 0, 0, 0, 0, 0, 0, 0, 0, 0, 0, 0, 0, 0, 0, 0, 0, 0, 0, 0, 0, 0, 0, 0, 0, 0, 0, 0,
              0, 0, 0, 0, 0, 0, 0, 0, 0, 0, 0, 0, 0, 0, 0, 0, 0, 0, 0, 0, 0, 0, 0, 0, 0, 0, 0, 0, 0, 0, 0, 0, 0, 0, 0, 0, 0, 0, 0, 0, 0, 0, 0, 0, 0, 0, 0, 0, 0, 0, 0, 0, 0, 0, 0, 0, 0, 0, 0, 0, 0, 0,
              0, 0, 0, 0, 0, 0, 0, 0, 0, 0, 0, 0, 0, 0, 0, 0, 0, 0, 0, 0, 0, 0, 0, 0, 0, 0, 0, 0, 0, 0, 0, 0, 0, 0, 0, 0, 0, 0, 0, 0, 0, 0, 0, 0, 0, 0, 0, 0, 0, 0, 0, 0, 0, 0, 0, 0, 0, 0, 0, 0, 0, 0,
              0, 0, 0, 0, 0, 0, 0, 0, 0, 0, 0, 0, 0, 0, 0, 0, 0, 0, 0, 0, 0, 0, 0, 0, 0, 0, 0, 0, 0, 0, 0, 0, 0, 0, 0, 0, 0, 0, 0, 0, 0, 0, 0, 0, 0, 0, 0, 0, 0, 0, 0, 0, 0, 0, 0, 0, 0, 0, 0, 0, 0, 0,
              0, 0, 0, 0, 0, 0, 0, 0, 0, 0, 0, 0, 0, 0, 0, 0, 0, 0, 0, 0, 0, 0, 0, 0, 0, 0, 0, 0, 0, 0, 0, 0, 0, 0, 0, 0, 0, 0, 0, 0, 0, 0, 0, 0, 0, 0, 0, 0, 0, 0, 0, 0, 0, 0, 0, 0, 0, 0, 0, 0, 0, 0,
              0, 0, 0, 0, 0, 0, 0, 0, 0, 0, 0, 0, 0, 0, 0, 0, 0, 0, 0, 0, 0, 0, 0, 0, 0, 0, 0, 0, 0, 0, 0, 0, 0, 0, 0, 0, 0, 0, 0, 0, 0, 0, 0, 0, 0, 0, 0, 0, 0, 0, 0, 0, 0, 0, 0, 0, 0, 0, 0, 0, 0, 0,
              0, 0, 0, 0, 0, 0, 0, 0, 0, 0, 0, 0, 0, 0, 0, 0, 0, 0, 0, 0, 0, 0, 0, 0, 0, 0, 0, 0, 0, 0, 0, 0, 0, 0, 0, 0, 0, 0, 0, 0, 0, 0, 0, 0, 0, 0, 0, 0, 0, 0, 0, 0, 0, 0, 0, 0, 0, 0, 0, 0, 0, 0,
              0, 0, 0, 0, 0, 0, 0, 0, 0, 0, 0, 0, 0, 0, 0, 0, 0, 0, 0, 0, 0, 0, 0, 0, 0, 0, 0, 0, 0, 0, 0, 0, 0, 0, 0, 0, 0, 0, 0, 0, 0, 0, 0, 0, 0, 0, 0, 0, 0, 0, 0, 0, 0, 0, 0, 0, 0, 0, 0, 0, 0, 0,
              0, 0, 0, 0, 0, 0, 0, 0, 0, 0, 0, 0, 0, 0, 0, 0, 0, 0, 0, 0, 0, 0, 0, 0, 0, 0, 0, 0, 0, 0, 0, 0, 0, 0, 0, 0, 0, 0, 0, 0, 0, 0, 0, 0, 0, 0, 0, 0, 0, 0, 0, 0, 0, 0, 0, 0, 0, 0, 0, 0, 0, 0,
              0, 0, 0, 0, 0, 0, 0, 0, 0, 0, 0, 0, 0, 0, 0, 0, 0, 0, 0, 0, 0, 0, 0, 0, 0, 0, 0, 0, 0, 0, 0, 0, 0, 0, 0, 0, 0, 0, 0, 0, 0, 0, 0, 0, 0, 0, 0, 0, 0, 0, 0, 0, 0, 0, 0, 0, 0, 0, 0, 0, 0, 0,
              0, 0, 0, 0, 0, 0, 0, 0, 0, 0, 0, 0, 0, 0, 0, 0, 0, 0, 0, 0, 0, 0, 0, 0, 0, 0, 0, 0, 0, 0, 0, 0, 0, 0, 0, 0, 0, 0, 0, 0, 0, 0, 0, 0, 0, 0, 0, 0, 0, 0, 0, 0, 0, 0, 0, 0, 0, 0, 0, 0, 0, 0,
              0, 0, 0, 0, 0, 0, 0, 0, 0, 0, 0, 0, 0, 0, 0, 0, 0, 0, 0, 0, 0, 0, 0, 0, 0, 0, 0, 0, 0, 0, 0, 0, 0, 0, 0, 0, 0, 0, 0, 0, 0, 0, 0, 0, 0, 0, 0, 0, 0, 0, 0, 0, 0, 0, 0, 0, 0, 0, 0, 0, 0, 0,
              0, 0, 0, 0, 0, 0, 0, 0, 0, 0, 0, 0, 0, 0, 0, 0, 0, 0, 0, 0, 0, 0, 0, 0, 0, 0, 0, 0, 0, 0, 0, 0, 0, 0, 0, 0, 0, 0, 0, 0, 0, 0, 0, 0, 0, 0, 0, 0, 0, 0, 0, 0, 0, 0, 0, 0, 0, 0, 0, 0, 0, 0,
              0, 0, 0, 0, 0, 0, 0, 0, 0, 0, 0, 0, 0, 0, 0, 0, 0, 0, 0, 0, 0, 0, 0, 0, 0, 0, 0, 0, 0, 0, 0, 0, 0, 0, 0, 0, 0, 0, 0, 0, 0, 0, 0, 0, 0, 0, 0, 0, 0, 0, 0, 0, 0, 0, 0, 0, 0, 0, 0, 0, 0, 0,
              0, 0, 0, 0, 0, 0, 0, 0, 0, 0, 0, 0, 0, 0, 0, 0, 0, 0, 0, 0, 0, 0, 0, 0, 0, 0, 0, 0, 0, 0, 0, 0, 0, 0, 0, 0, 0, 0, 0, 0, 0, 0, 0, 0, 0, 0, 0, 0, 0, 0, 0, 0, 0, 0, 0, 0, 0, 0, 0, 0, 0, 0,
              0, 0, 0, 0, 0, 0, 0, 0, 0, 0, 0, 0, 0, 0, 0, 0, 0, 0, 0, 0, 0, 0, 0, 0, 0, 0, 0, 0, 0, 0, 0, 0, 0, 0, 0, 0, 0, 0, 0, 0, 0, 0, 0, 0, 0, 0, 0, 0, 0, 0, 0, 0, 0, 0, 0, 0, 0, 0, 0, 0, 0, 0,
              0, 0, 0, 0, 0, 0, 0, 0, 0, 0, 0, 0, 0, 0, 0, 0, 0, 0, 0, 0, 0, 0, 0, 0, 0, 0, 0, 0, 0, 0, 0, 0, 0, 0, 0, 0, 0, 0, 0, 0, 0, 0, 0, 0, 0, 0, 0, 0, 0, 0, 0, 0, 0, 0, 0, 0, 0, 0, 0, 0, 0, 0,
              0, 0, 0, 0, 0, 0, 0, 0, 0, 0, 0, 0, 0, 0, 0, 0, 0, 0, 0, 0, 0, 0, 0, 0, 0, 0, 0, 0, 0, 0, 0, 0, 0, 0, 0, 0, 0, 0, 0, 0, 0, 0, 0, 0, 0, 0, 0, 0, 0, 0, 0, 0, 0, 0, 0, 0, 0, 0, 0, 0, 0, 0,
              0, 0, 0, 0, 0, 0, 0, 0, 0, 0, 0, 0, 0, 0, 0, 0, 0])]
      [])
    fun (o_21 : Out) =>
    ift o_21.snd.isEmpty
      (unT o_21.fst fun (l_22 : List V) =>
        ift (l_22.length == 3)
          (asD (l_22.getD 0 (V.d (D.b false))) fun (d_23 : D) =>
            asL d_23 fun (b_24 : Bool) (l_25 : List D) =>
              asD (l_22.getD 1 (V.d (D.b false))) fun (d_26 : D) =>
                asI IntKind.i64 d_26 fun (n_27 : Int) =>
                  asD (l_22.getD 2 (V.d (D.b false))) fun (d_28 : D) =>
                    asI IntKind.i64 d_28 fun (n_29 : Int) =>
                      Tr.call (Task.call 10 [V.d (D.s [48, 120, 49, 70, 32, 45, 55, 32, 46, 53, 32, 39, 97, 34, 98, 39, 32, 120, 95, 49])] []) fun (o_30 : Out) =>
                        ift o_30.snd.isEmpty
                          (unT o_30.fst fun (l_31 : List V) =>
                            ift (l_31.length == 3)
                              (asD (l_31.getD 0 (V.d (D.b false))) fun (d_32 : D) =>
                                asL d_32 fun (b_33 : Bool) (l_34 : List D) =>
                                  asD (l_31.getD 1 (V.d (D.b false))) fun (d_35 : D) =>
                                    asI IntKind.i64 d_35 fun (n_36 : Int) =>
                                      asD (l_31.getD 2 (V.d (D.b false))) fun (d_37 : D) =>
                                        asI IntKind.i64 d_37 fun (n_38 : Int) =>
                                          brB (n_27 == 4)
                                            (brB (n_29 == 0)
                                              (brB (n_36 == 0)
                                                (brB ((↑l_34.length : Int) == 6)
                                                  (ob (getI l_34 0) fun (d_39 : D) =>
                                                    ift (d_39.width == 5)
                                                      (ob l_34[0]? fun (d_40 : D) =>
                                                        ob d_40.cells[2]? fun (d_41 : D) =>
                                                          asI IntKind.i64 d_41 fun (n_42 : Int) =>
                                                            brB (n_42 == 31)
                                                              (ob (getI l_34 1) fun (d_43 : D) =>
                                                                ift (d_43.width == 5)
                                                                  (ob l_34[1]? fun (d_44 : D) =>
                                                                    ob d_44.cells[2]? fun (d_45 : D) =>
                                                                      asI IntKind.i64 d_45 fun (n_46 : Int) =>
                                                                        brB (n_46 == -7)
                                                                          (ob (getI l_34 2) fun (d_47 : D) =>
                                                                            ift (d_47.width == 5)
                                                                              (ob l_34[2]? fun (d_48 : D) =>
                                                                                ob d_48.cells[3]? fun (d_49 : D) =>
                                                                                  asI IntKind.u64 d_49 fun (n_50 : Int) =>
                                                                                    brB (n_50 == 4602678819172646912)
                                                                                      (ob (getI l_34 3) fun (d_51 : D) =>
                                                                                        ift (d_51.width == 5)
                                                                                          (ob l_34[3]? fun (d_52 : D) =>
                                                                                            ob d_52.cells[1]? fun (d_53 : D) =>
                                                                                              asS d_53 fun (l_54 : List UInt8) =>
                                                                                                brB (l_54 == [97, 34, 98])
                                                                                                  (ob (getI l_34 4) fun (d_55 : D) =>
                                                                                                    ift (d_55.width == 5)
                                                                                                      (ob l_34[4]? fun (d_56 : D) =>
                                                                                                        ob d_56.cells[1]? fun (d_57 : D) =>
                                                                                                          asS d_57 fun (l_58 : List UInt8) => Tr.ret (V.d (D.b (l_58 == [120, 95, 49])), [])))
                                                                                                  (Tr.ret (V.d (D.b false), []))))
                                                                                      (Tr.ret (V.d (D.b false), []))))
                                                                          (Tr.ret (V.d (D.b false), []))))
                                                              (Tr.ret (V.d (D.b false), []))))
                                                  (Tr.ret (V.d (D.b false), [])))
                                                (Tr.ret (V.d (D.b false), [])))
                                              (Tr.ret (V.d (D.b false), [])))
                                            (Tr.ret (V.d (D.b false), [])))))))) :=
  rk_of (by kernel_rfl)
theorem t79_at24 (b_0 : Bool) (l_1 : List UInt8) (n_2 : Int) (n_3 : Int) (n_4 : Int) (b_5 : Bool) (l_6 : List D) :
    rk Tryd.prog pol (Task.at_ 79 1 [true, false, false, false] (sv 34 [(0, V.p 0 0), (1, V.f 80 []), (26, V.d (D.b b_0))]) []
  [Ob.cells [V.d (D.s l_1), V.d (D.i IntKind.i64 n_2), V.d (D.i IntKind.i64 n_3), V.d (D.i IntKind.i64 n_4), V.d (D.l b_5 l_6)] [(4, 5)]]) = interp (rk Tryd.prog pol) (
brB b_0
  (Tr.call
    (Task.at_ 79 1 [false] (sv 34 [(0, V.p 0 0), (1, V.f 80 [])]) []
      [Ob.cells [V.d (D.s l_1), V.d (D.i IntKind.i64 (IntKind.i64.wrap (n_2 + 1))), V.d (D.i IntKind.i64 n_3), V.d (D.i IntKind.i64 n_4), V.d (D.l b_5 l_6)] [(4, 5)]])
    Tr.ret)
  (Tr.ret (V.t [], [Ob.cells [V.d (D.s l_1), V.d (D.i IntKind.i64 n_2), V.d (D.i IntKind.i64 n_3), V.d (D.i IntKind.i64 n_4), V.d (D.l b_5 l_6)] [(4, 5)]]))) :=
  rk_of (by kernel_rfl)
theorem t79_at24_1 (b_0 : Bool) (l_1 : List UInt8) (n_2 : Int) (n_3 : Int) (n_4 : Int) (b_5 : Bool) (l_6 : List D) :
    rk Tryd.prog pol (Task.at_ 79 1 [true, false, false, false] (sv 34 [(0, V.p 0 0), (1, V.f 46 []), (26, V.d (D.b b_0))]) []
  [Ob.cells [V.d (D.s l_1), V.d (D.i IntKind.i64 n_2), V.d (D.i IntKind.i64 n_3), V.d (D.i IntKind.i64 n_4), V.d (D.l b_5 l_6)] [(4, 5)]]) = interp (rk Tryd.prog pol) (
brB b_0
  (Tr.call
    (Task.at_ 79 1 [false] (sv 34 [(0, V.p 0 0), (1, V.f 46 [])]) []
      [Ob.cells [V.d (D.s l_1), V.d (D.i IntKind.i64 (IntKind.i64.wrap (n_2 + 1))), V.d (D.i IntKind.i64 n_3), V.d (D.i IntKind.i64 n_4), V.d (D.l b_5 l_6)] [(4, 5)]])
    Tr.ret)
  (Tr.ret (V.t [], [Ob.cells [V.d (D.s l_1), V.d (D.i IntKind.i64 n_2), V.d (D.i IntKind.i64 n_3), V.d (D.i IntKind.i64 n_4), V.d (D.l b_5 l_6)] [(4, 5)]]))) :=
  rk_of (by kernel_rfl)
theorem t79_at24_2 (b_0 : Bool) (l_1 : List UInt8) (n_2 : Int) (n_3 : Int) (n_4 : Int) (b_5 : Bool) (l_6 : List D) :
    rk Tryd.prog pol (Task.at_ 79 1 [true, false, false, false] (sv 34 [(0, V.p 0 0), (1, V.f 82 []), (26, V.d (D.b b_0))]) []
  [Ob.cells [V.d (D.s l_1), V.d (D.i IntKind.i64 n_2), V.d (D.i IntKind.i64 n_3), V.d (D.i IntKind.i64 n_4), V.d (D.l b_5 l_6)] [(4, 5)]]) = interp (rk Tryd.prog pol) (
brB b_0
  (Tr.call
    (Task.at_ 79 1 [false] (sv 34 [(0, V.p 0 0), (1, V.f 82 [])]) []
      [Ob.cells [V.d (D.s l_1), V.d (D.i IntKind.i64 (IntKind.i64.wrap (n_2 + 1))), V.d (D.i IntKind.i64 n_3), V.d (D.i IntKind.i64 n_4), V.d (D.l b_5 l_6)] [(4, 5)]])
    Tr.ret)
  (Tr.ret (V.t [], [Ob.cells [V.d (D.s l_1), V.d (D.i IntKind.i64 n_2), V.d (D.i IntKind.i64 n_3), V.d (D.i IntKind.i64 n_4), V.d (D.l b_5 l_6)] [(4, 5)]]))) :=
  rk_of (by kernel_rfl)
theorem t20_at4083 (n_0 : Int) (b_1 : Bool) (l_2 : List V) :
    rk Tryd.prog pol (Task.at_ 20 1 [true, true, true, true, true, true, true, false, false, true, true] (sv 106 [(0, V.p 0 0), (3, V.d (D.i IntKind.i64 n_0)), (77, V.d (D.b b_1))]) [] [Ob.cells l_2 [(4, 5)]]) = interp (rk Tryd.prog pol) (
brB b_1
  (ob l_2[1]? fun (v_0 : V) =>
    asD v_0 fun (d_1 : D) =>
      asI IntKind.i64 d_1 fun (n_2 : Int) =>
        ift (decide (1 < l_2.length) && true)
          (Tr.call (Task.call 42 [V.p 0 0, V.d (D.s [42, 47])] [Ob.cells (l_2.set 1 (V.d (D.i IntKind.i64 (IntKind.i64.wrap (n_2 + 2))))) [(4, 5)]]) fun (o_3 : Out) =>
            unCons o_3.snd fun (x_4 : Ob) (l_5 : List Ob) =>
              unCells x_4 fun (l_6 : List V) (l_7 : Fl) =>
                ift (l_6.length == (l_2.set 1 (V.d (D.i IntKind.i64 (IntKind.i64.wrap (n_2 + 2))))).length)
                  (ift (l_7 == [(4, 5)])
                    (unNil l_5
                      (asD o_3.fst fun (d_8 : D) =>
                        asB d_8 fun (b_9 : Bool) =>
                          brB (!b_9)
                            (Tr.call (Task.call 43 [V.p 0 0, V.d (D.i IntKind.i64 2), V.d (D.i IntKind.i64 n_0)] [Ob.cells l_6 [(4, 5)]]) fun (o_10 : Out) =>
                              unCons o_10.snd fun (x_11 : Ob) (l_12 : List Ob) =>
                                unCells x_11 fun (l_13 : List V) (l_14 : Fl) =>
                                  ift (l_13.length == l_6.length)
                                    (ift (l_14 == [(4, 5)]) (unNil l_12 (unT o_10.fst fun (l_15 : List V) => ift (l_15.length == 0) (Tr.ret (V.d (D.b false), [Ob.cells l_13 [(4, 5)]]))))))
                            (Tr.ret (V.d (D.b true), [Ob.cells l_6 [(4, 5)]])))))))
  (Tr.ret (V.d (D.b false), [Ob.cells l_2 [(4, 5)]]))) :=
  rk_of (by kernel_rfl)
theorem t20_at4083_1 (n_0 : Int) (b_1 : Bool) (l_2 : List UInt8) (n_3 : Int) (n_4 : Int) (n_5 : Int) (b_6 : Bool) (l_7 : List D) :
    rk Tryd.prog pol (Task.at_ 20 1 [true, true, true, true, true, true, true, false, false, true, true] (sv 106 [(0, V.p 0 0), (3, V.d (D.i IntKind.i64 n_0)), (77, V.d (D.b b_1))]) []
  [Ob.cells [V.d (D.s l_2), V.d (D.i IntKind.i64 n_3), V.d (D.i IntKind.i64 n_4), V.d (D.i IntKind.i64 n_5), V.d (D.l b_6 l_7)] [(4, 5)]]) = interp (rk Tryd.prog pol) (
brB b_1
  (Tr.call
    (Task.call 42 [V.p 0 0, V.d (D.s [42, 47])]
      [Ob.cells [V.d (D.s l_2), V.d (D.i IntKind.i64 (IntKind.i64.wrap (n_3 + 2))), V.d (D.i IntKind.i64 n_4), V.d (D.i IntKind.i64 n_5), V.d (D.l b_6 l_7)] [(4, 5)]])
    fun (o_0 : Out) =>
    unCons o_0.snd fun (x_1 : Ob) (l_2 : List Ob) =>
      unCells x_1 fun (l_3 : List V) (l_4 : Fl) =>
        ift (l_3.length == 5)
          (ift (l_4 == [(4, 5)])
            (unNil l_2
              (asD o_0.fst fun (d_5 : D) =>
                asB d_5 fun (b_6 : Bool) =>
                  brB (!b_6)
                    (Tr.call (Task.call 43 [V.p 0 0, V.d (D.i IntKind.i64 2), V.d (D.i IntKind.i64 n_0)] [Ob.cells l_3 [(4, 5)]]) fun (o_7 : Out) =>
                      unCons o_7.snd fun (x_8 : Ob) (l_9 : List Ob) =>
                        unCells x_8 fun (l_10 : List V) (l_11 : Fl) =>
                          ift (l_10.length == l_3.length)
                            (ift (l_11 == [(4, 5)]) (unNil l_9 (unT o_7.fst fun (l_12 : List V) => ift (l_12.length == 0) (Tr.ret (V.d (D.b false), [Ob.cells l_10 [(4, 5)]]))))))
                    (Tr.ret (V.d (D.b true), [Ob.cells l_3 [(4, 5)]]))))))
  (Tr.ret (V.d (D.b false), [Ob.cells [V.d (D.s l_2), V.d (D.i IntKind.i64 n_3), V.d (D.i IntKind.i64 n_4), V.d (D.i IntKind.i64 n_5), V.d (D.l b_6 l_7)] [(4, 5)]]))) :=
  rk_of (by kernel_rfl)
theorem t83_at255 (n_0 : Int) (n_1 : Int) (l_2 : List V) :
    rk Tryd.prog pol (Task.at_ 83 1 [true, true, true, true, true, true, true] (sv 71 [(0, V.p 0 0), (1, V.d (D.i IntKind.i64 n_0)), (6, V.d (D.i IntKind.u64 n_1))]) [] [Ob.cells l_2 [(4, 5)]]) = interp (rk Tryd.prog pol) (
ob l_2[4]? fun (v_0 : V) =>
  asD
    ((sv 71
          [(0, V.p 0 0), (1, V.d (D.i IntKind.i64 n_0)), (6, V.d (D.i IntKind.u64 n_1)), (58, V.p 0 0), (59, V.p 0 0), (60, V.p 0 0), (61, V.p 0 4), (62, v_0), (63, V.d (D.i IntKind.u64 n_1)),
            (64, V.d (D.i IntKind.i64 (IntKind.i64.wrap n_1))), (65, V.d (D.i IntKind.i64 n_0)),
            (66, V.d (D.g [D.i IntKind.i64 2, D.s [], D.i IntKind.i64 (IntKind.i64.wrap n_1), D.i IntKind.u64 0, D.i IntKind.i64 n_0])),
            (67, V.d (D.l true [D.g [D.i IntKind.i64 2, D.s [], D.i IntKind.i64 (IntKind.i64.wrap n_1), D.i IntKind.u64 0, D.i IntKind.i64 n_0]]))]).getD
      62 V.u)
    fun (d_1 : D) =>
    asL d_1 fun (b_2 : Bool) (l_3 : List D) =>
      ift (headOk 5 l_3)
        (ift (b_2 || true)
          (ift (decide (l_3.length + 1 ≤ 4294967296))
            (ift (decide (4 < l_2.length) && true)
              (Tr.ret
                (V.t [],
                  [Ob.cells (l_2.set 4 (V.d (D.l (b_2 && false) (l_3 ++ [D.g [D.i IntKind.i64 2, D.s [], D.i IntKind.i64 (IntKind.i64.wrap n_1), D.i IntKind.u64 0, D.i IntKind.i64 n_0]]))))
                      [(4, 5)]])))))) :=
  rk_of (by kernel_rfl)
theorem t85_at119 (b_0 : Bool) (b_1 : Bool) (l_2 : List V) :
    rk Tryd.prog pol (Task.at_ 85 1 [true, true, false, true, true, true] (sv 73 [(0, V.p 0 0), (3, V.d (D.b b_0)), (41, V.d (D.b b_1))]) [] [Ob.cells l_2 [(4, 5)]]) = interp (rk Tryd.prog pol) (
brB b_1
  (Tr.call (Task.call 41 [V.p 0 0, V.d (D.i IntKind.i64 1)] [Ob.cells l_2 [(4, 5)]]) fun (o_0 : Out) =>
    unCons o_0.snd fun (x_1 : Ob) (l_2_1 : List Ob) =>
      unCells x_1 fun (l_3 : List V) (l_4 : Fl) =>
        ift (l_3.length == l_2.length)
          (ift (l_4 == [(4, 5)])
            (unNil l_2_1
              (asD o_0.fst fun (d_5 : D) =>
                asI IntKind.u8 d_5 fun (n_6 : Int) =>
                  brB (n_6 == 43)
                    (Tr.call
                      (Task.at_ 85 1 [true, true, false, true, false, true, true, false, true, true, true]
                        (sv 73 [(0, V.p 0 0), (3, V.d (D.b b_0)), (5, V.d (D.i IntKind.i64 1)), (51, V.d (D.b true))]) [] [Ob.cells l_3 [(4, 5)]])
                      Tr.ret)
                    (Tr.call
                      (Task.at_ 85 1 [true, true, false, true, false, true, true, false, true, true, true]
                        (sv 73 [(0, V.p 0 0), (3, V.d (D.b b_0)), (5, V.d (D.i IntKind.i64 1)), (51, V.d (D.b (n_6 == 45)))]) [] [Ob.cells l_3 [(4, 5)]])
                      Tr.ret)))))
  (Tr.ret (V.d (D.b b_0), [Ob.cells l_2 [(4, 5)]]))) :=
  rk_of (by kernel_rfl)
theorem t86_at351_1 (b_0 : Bool) (l_1 : List UInt8) (n_2 : Int) (l_3 : List UInt8) (m_4 : Nat) :
    rk Tryd.prog pol (Task.at_ 86 0 [false, true, false, true, true, true, true, true] (sv 40 [(4, V.d (D.b b_0)), (5, V.d (D.s l_1)), (6, V.d (D.i IntKind.u64 n_2)), (18, V.it 0)]) [] [Ob.iter l_3 m_4]) = interp (rk Tryd.prog pol) (
brB (decide (m_4 < l_3.length))
  (ob (getI l_1 (↑m_4 : Int)) fun (c_0 : UInt8) =>
    Tr.call
      (Task.at_ 86 0 [false, true, false, true, true, true, true, true]
        (sv 40
          [(4, V.d (D.b b_0)), (5, V.d (D.s l_1)), (6, V.d (D.i IntKind.u64 (IntKind.u64.wrap (IntKind.u64.wrap (10 * n_2) + IntKind.u64.wrap (IntKind.u8.wrap ((↑c_0.toNat : Int) - 48)))))),
            (18, V.it 0)])
        [] [Ob.iter l_3 (m_4 + (Utf8.decode (ByteArray.mk l_3.toArray) m_4).snd)])
      Tr.ret)
  (brB b_0 (Tr.ret (V.t [V.d (D.i IntKind.i64 (IntKind.i64.wrap (0 - IntKind.i64.wrap n_2))), V.d (D.b (decide (n_2 ≤ 9223372036854775808)))], []))
    (Tr.ret (V.t [V.d (D.i IntKind.i64 (IntKind.i64.wrap n_2)), V.d (D.b (decide (n_2 < 9223372036854775808)))], [])))) :=
  rk_of (by kernel_rfl)
theorem t47_at27 (n_0 : Int) (b_1 : Bool) (l_2 : List V) :
    rk Tryd.prog pol (Task.at_ 47 1 [true, false, true, true] (sv 192 [(0, V.p 0 0), (2, V.d (D.i IntKind.i64 n_0)), (103, V.d (D.b b_1))]) [] [Ob.cells l_2 [(4, 5)]]) = interp (rk Tryd.prog pol) (
brB b_1
  (Tr.call (Task.call 43 [V.p 0 0, V.d (D.i IntKind.i64 2), V.d (D.i IntKind.i64 n_0)] [Ob.cells l_2 [(4, 5)]]) fun (o_0 : Out) =>
    unCons o_0.snd fun (x_1 : Ob) (l_2_1 : List Ob) =>
      unCells x_1 fun (l_3 : List V) (l_4 : Fl) =>
        ift (l_3.length == l_2.length) (ift (l_4 == [(4, 5)]) (unNil l_2_1 (unT o_0.fst fun (l_5 : List V) => ift (l_5.length == 0) (Tr.ret (V.t [], [Ob.cells l_3 [(4, 5)]]))))))
  (ob l_2[1]? fun (v_6 : V) =>
    asD v_6 fun (d_7 : D) =>
      asI IntKind.i64 d_7 fun (n_8 : Int) =>
        Tr.call (Task.call 79 [V.p 0 0, V.f 46 []] [Ob.cells l_2 [(4, 5)]]) fun (o_9 : Out) =>
          unCons o_9.snd fun (x_10 : Ob) (l_11 : List Ob) =>
            unCells x_10 fun (l_12 : List V) (l_13 : Fl) =>
              ift (l_12.length == l_2.length)
                (ift (l_13 == [(4, 5)])
                  (unNil l_11
                    (unT o_9.fst fun (l_14 : List V) =>
                      ift (l_14.length == 0)
                        (ob l_12[1]? fun (v_15 : V) =>
                          asD v_15 fun (d_16 : D) =>
                            asI IntKind.i64 d_16 fun (n_17 : Int) =>
                              Tr.call (Task.call 85 [V.p 0 0] [Ob.cells l_12 [(4, 5)]]) fun (o_18 : Out) =>
                                unCons o_18.snd fun (x_19 : Ob) (l_20 : List Ob) =>
                                  unCells x_19 fun (l_21 : List V) (l_22 : Fl) =>
                                    ift (l_21.length == l_12.length)
                                      (ift (l_22 == [(4, 5)])
                                        (unNil l_20
                                          (asD o_18.fst fun (d_23 : D) =>
                                            asB d_23 fun (b_24 : Bool) =>
                                              ob l_21[0]? fun (v_25 : V) =>
                                                asD v_25 fun (d_26 : D) =>
                                                  asS d_26 fun (l_27 : List UInt8) =>
                                                    ob l_21[1]? fun (v_28 : V) =>
                                                      asD v_28 fun (d_29 : D) =>
                                                        asI IntKind.i64 d_29 fun (n_30 : Int) =>
                                                          ift (decide (0 ≤ n_30 ∧ n_30 ≤ (↑l_27.length : Int)))
                                                            (ift (decide (0 ≤ n_0 ∧ n_0 ≤ (↑n_30.toNat : Int)))
                                                              (brB (!b_24)
                                                                (Tr.call (Task.call 86 [V.d (D.s (List.take (n_30.toNat - n_0.toNat) (List.drop n_0.toNat l_27)))] []) fun (o_31 : Out) =>
                                                                  ift o_31.snd.isEmpty
                                                                    (unT o_31.fst fun (l_32 : List V) =>
                                                                      ift (l_32.length == 2)
                                                                        (asD (l_32.getD 0 (V.d (D.b false))) fun (d_33 : D) =>
                                                                          asI IntKind.i64 d_33 fun (n_34 : Int) =>
                                                                            asD (l_32.getD 1 (V.d (D.b false))) fun (d_35 : D) =>
                                                                              asB d_35 fun (b_36 : Bool) =>
                                                                                brB (decide (IntKind.i64.wrap (n_17 - n_8) > 60))
                                                                                  (Tr.call (Task.call 43 [V.p 0 0, V.d (D.i IntKind.i64 4), V.d (D.i IntKind.i64 n_0)] [Ob.cells l_21 [(4, 5)]])
                                                                                    fun (o_37 : Out) =>
                                                                                    unCons o_37.snd fun (x_38 : Ob) (l_39 : List Ob) =>
                                                                                      unCells x_38 fun (l_40 : List V) (l_41 : Fl) =>
                                                                                        ift (l_40.length == l_21.length)
                                                                                          (ift (l_41 == [(4, 5)])
                                                                                            (unNil l_39
                                                                                              (unT o_37.fst fun (l_42 : List V) =>
                                                                                                ift (l_42.length == 0)
                                                                                                  (Tr.call
                                                                                                    (Task.at_ 47 1
                                                                                                      [true, true, false, true, false, true, true, true, true, true, true, true, true, true]
                                                                                                      (sv 192
                                                                                                        [(0, V.p 0 0), (2, V.d (D.i IntKind.i64 n_0)), (7, V.p 1 0), (8, V.d (D.i IntKind.i64 n_34)),
                                                                                                          (9, V.d (D.b b_36))])
                                                                                                      []
                                                                                                      [Ob.cells
                                                                                                          [V.d (D.i IntKind.i64 3), V.d (D.s []), V.d (D.i IntKind.i64 0), V.d (D.i IntKind.u64 0),
                                                                                                            V.d (D.i IntKind.i64 n_0)]
                                                                                                          [],
                                                                                                        Ob.cells l_40 [(4, 5)]])
                                                                                                    Tr.ret)))))
                                                                                  (Tr.call
                                                                                    (Task.at_ 47 1 [true, true, false, true, false, true, true, true, true, true, true, true, true, true]
                                                                                      (sv 192
                                                                                        [(0, V.p 0 0), (2, V.d (D.i IntKind.i64 n_0)), (7, V.p 1 0), (8, V.d (D.i IntKind.i64 n_34)),
                                                                                          (9, V.d (D.b b_36))])
                                                                                      []
                                                                                      [Ob.cells
                                                                                          [V.d (D.i IntKind.i64 3), V.d (D.s []), V.d (D.i IntKind.i64 0), V.d (D.i IntKind.u64 0),
                                                                                            V.d (D.i IntKind.i64 n_0)]
                                                                                          [],
                                                                                        Ob.cells l_21 [(4, 5)]])
                                                                                    Tr.ret))))
                                                                (Tr.call (Task.call 87 [V.d (D.s (List.take (n_30.toNat - n_0.toNat) (List.drop n_0.toNat l_27)))] []) fun (o_43 : Out) =>
                                                                  ift o_43.snd.isEmpty
                                                                    (unT o_43.fst fun (l_44 : List V) =>
                                                                      ift (l_44.length == 2)
                                                                        (asD (l_44.getD 0 (V.d (D.b false))) fun (d_45 : D) =>
                                                                          asI IntKind.u64 d_45 fun (n_46 : Int) =>
                                                                            asD (l_44.getD 1 (V.d (D.b false))) fun (d_47 : D) =>
                                                                              asI IntKind.i64 d_47 fun (n_48 : Int) =>
                                                                                brB (n_48 != 0)
                                                                                  (Tr.call (Task.call 43 [V.p 0 0, V.d (D.i IntKind.i64 n_48), V.d (D.i IntKind.i64 n_0)] [Ob.cells l_21 [(4, 5)]])
                                                                                    fun (o_49 : Out) =>
                                                                                    unCons o_49.snd fun (x_50 : Ob) (l_51 : List Ob) =>
                                                                                      unCells x_50 fun (l_52 : List V) (l_53 : Fl) =>
                                                                                        ift (l_52.length == l_21.length)
                                                                                          (ift (l_53 == [(4, 5)])
                                                                                            (unNil l_51
                                                                                              (unT o_49.fst fun (l_54 : List V) =>
                                                                                                ift (l_54.length == 0)
                                                                                                  (Tr.call
                                                                                                    (Task.at_ 47 1 [true, true, true, true, false, true, true, true, true, true, true, true, true, true]
                                                                                                      (sv 192 [(0, V.p 0 0), (7, V.p 1 0), (10, V.d (D.i IntKind.u64 n_46))]) []
                                                                                                      [Ob.cells
                                                                                                          [V.d (D.i IntKind.i64 3), V.d (D.s []), V.d (D.i IntKind.i64 0), V.d (D.i IntKind.u64 0),
                                                                                                            V.d (D.i IntKind.i64 n_0)]
                                                                                                          [],
                                                                                                        Ob.cells l_52 [(4, 5)]])
                                                                                                    Tr.ret)))))
                                                                                  (Tr.call
                                                                                    (Task.at_ 47 1 [true, true, true, true, false, true, true, true, true, true, true, true, true, true]
                                                                                      (sv 192 [(0, V.p 0 0), (7, V.p 1 0), (10, V.d (D.i IntKind.u64 n_46))]) []
                                                                                      [Ob.cells
                                                                                          [V.d (D.i IntKind.i64 3), V.d (D.s []), V.d (D.i IntKind.i64 0), V.d (D.i IntKind.u64 0),
                                                                                            V.d (D.i IntKind.i64 n_0)]
                                                                                          [],
                                                                                        Ob.cells l_21 [(4, 5)]])
                                                                                    Tr.ret))))))))))))))) :=
  rk_of (by kernel_rfl)
theorem t47_at61 (n_0 : Int) (b_1 : Bool) (l_2 : List V) :
    rk Tryd.prog pol (Task.at_ 47 1 [true, true, true, false, true] (sv 192 [(0, V.p 0 0), (2, V.d (D.i IntKind.i64 n_0)), (77, V.d (D.b b_1))]) [] [Ob.cells l_2 [(4, 5)]]) = interp (rk Tryd.prog pol) (
brB b_1
  (Tr.call (Task.call 83 [V.p 0 0, V.d (D.i IntKind.i64 n_0)] [Ob.cells l_2 [(4, 5)]]) fun (o_0 : Out) =>
    unCons o_0.snd fun (x_1 : Ob) (l_2_1 : List Ob) =>
      unCells x_1 fun (l_3 : List V) (l_4 : Fl) =>
        ift (l_3.length == l_2.length)
          (ift (l_4 == [(4, 5)])
            (unNil l_2_1
              (unT o_0.fst fun (l_5 : List V) =>
                ift (l_5.length == 0)
                  (Tr.call (Task.call 84 [V.p 0 0] [Ob.cells l_3 [(4, 5)]]) fun (o_6 : Out) =>
                    unCons o_6.snd fun (x_7 : Ob) (l_8 : List Ob) =>
                      unCells x_7 fun (l_9 : List V) (l_10 : Fl) =>
                        ift (l_9.length == l_3.length) (ift (l_10 == [(4, 5)]) (unNil l_8 (unT o_6.fst fun (l_11 : List V) => ift (l_11.length == 0) (Tr.ret (V.t [], [Ob.cells l_9 [(4, 5)]]))))))))))
  (Tr.call (Task.call 41 [V.p 0 0, V.d (D.i IntKind.i64 0)] [Ob.cells l_2 [(4, 5)]]) fun (o_12 : Out) =>
    unCons o_12.snd fun (x_13 : Ob) (l_14 : List Ob) =>
      unCells x_13 fun (l_15 : List V) (l_16 : Fl) =>
        ift (l_15.length == l_2.length)
          (ift (l_16 == [(4, 5)])
            (unNil l_14
              (asD o_12.fst fun (d_17 : D) =>
                asI IntKind.u8 d_17 fun (n_18 : Int) =>
                  Tr.call (Task.call 46 [V.d (D.i IntKind.u8 n_18)] []) fun (o_19 : Out) =>
                    ift o_19.snd.isEmpty
                      (asD o_19.fst fun (d_20 : D) =>
                        asB d_20 fun (b_21 : Bool) =>
                          brB (!b_21)
                            (Tr.call (Task.call 41 [V.p 0 0, V.d (D.i IntKind.i64 0)] [Ob.cells l_15 [(4, 5)]]) fun (o_22 : Out) =>
                              unCons o_22.snd fun (x_23 : Ob) (l_24 : List Ob) =>
                                unCells x_23 fun (l_25 : List V) (l_26 : Fl) =>
                                  ift (l_25.length == l_15.length)
                                    (ift (l_26 == [(4, 5)])
                                      (unNil l_24
                                        (asD o_22.fst fun (d_27 : D) =>
                                          asI IntKind.u8 d_27 fun (n_28 : Int) =>
                                            brB (n_28 == 46)
                                              (Tr.call (Task.call 41 [V.p 0 0, V.d (D.i IntKind.i64 1)] [Ob.cells l_25 [(4, 5)]]) fun (o_29 : Out) =>
                                                unCons o_29.snd fun (x_30 : Ob) (l_31 : List Ob) =>
                                                  unCells x_30 fun (l_32 : List V) (l_33 : Fl) =>
                                                    ift (l_32.length == l_25.length)
                                                      (ift (l_33 == [(4, 5)])
                                                        (unNil l_31
                                                          (asD o_29.fst fun (d_34 : D) =>
                                                            asI IntKind.u8 d_34 fun (n_35 : Int) =>
                                                              Tr.call (Task.call 46 [V.d (D.i IntKind.u8 n_35)] []) fun (o_36 : Out) =>
                                                                ift o_36.snd.isEmpty
                                                                  (asD o_36.fst fun (d_37 : D) =>
                                                                    asB d_37 fun (b_38 : Bool) =>
                                                                      Tr.call
                                                                        (Task.at_ 47 1 [true, false, true, true] (sv 192 [(0, V.p 0 0), (2, V.d (D.i IntKind.i64 n_0)), (103, V.d (D.b !b_38))]) []
                                                                          [Ob.cells l_32 [(4, 5)]])
                                                                        Tr.ret)))))
                                              (Tr.call
                                                (Task.at_ 47 1 [true, false, true, true] (sv 192 [(0, V.p 0 0), (2, V.d (D.i IntKind.i64 n_0)), (103, V.d (D.b true))]) [] [Ob.cells l_25 [(4, 5)]])
                                                Tr.ret)))))
                            (Tr.call (Task.at_ 47 1 [true, false, true, true] (sv 192 [(0, V.p 0 0), (2, V.d (D.i IntKind.i64 n_0)), (103, V.d (D.b false))]) [] [Ob.cells l_15 [(4, 5)]]) Tr.ret))))))) :=
  rk_of (by kernel_rfl)
theorem t47_at61_1 (n_0 : Int) (b_1 : Bool) (l_2 : List UInt8) (n_3 : Int) (n_4 : Int) (n_5 : Int) (b_6 : Bool) (l_7 : List D) :
    rk Tryd.prog pol (Task.at_ 47 1 [true, true, true, false, true] (sv 192 [(0, V.p 0 0), (2, V.d (D.i IntKind.i64 n_0)), (77, V.d (D.b b_1))]) []
  [Ob.cells [V.d (D.s l_2), V.d (D.i IntKind.i64 n_3), V.d (D.i IntKind.i64 n_4), V.d (D.i IntKind.i64 n_5), V.d (D.l b_6 l_7)] [(4, 5)]]) = interp (rk Tryd.prog pol) (
brB b_1
  (Tr.call (Task.call 83 [V.p 0 0, V.d (D.i IntKind.i64 n_0)] [Ob.cells [V.d (D.s l_2), V.d (D.i IntKind.i64 n_3), V.d (D.i IntKind.i64 n_4), V.d (D.i IntKind.i64 n_5), V.d (D.l b_6 l_7)] [(4, 5)]])
    fun (o_0 : Out) =>
    unCons o_0.snd fun (x_1 : Ob) (l_2 : List Ob) =>
      unCells x_1 fun (l_3 : List V) (l_4 : Fl) =>
        ift (l_3.length == 5)
          (ift (l_4 == [(4, 5)])
            (unNil l_2
              (unT o_0.fst fun (l_5 : List V) =>
                ift (l_5.length == 0)
                  (Tr.call (Task.call 84 [V.p 0 0] [Ob.cells l_3 [(4, 5)]]) fun (o_6 : Out) =>
                    unCons o_6.snd fun (x_7 : Ob) (l_8 : List Ob) =>
                      unCells x_7 fun (l_9 : List V) (l_10 : Fl) =>
                        ift (l_9.length == l_3.length) (ift (l_10 == [(4, 5)]) (unNil l_8 (unT o_6.fst fun (l_11 : List V) => ift (l_11.length == 0) (Tr.ret (V.t [], [Ob.cells l_9 [(4, 5)]]))))))))))
  (Tr.call (Task.call 41 [V.p 0 0, V.d (D.i IntKind.i64 0)] [Ob.cells [V.d (D.s l_2), V.d (D.i IntKind.i64 n_3), V.d (D.i IntKind.i64 n_4), V.d (D.i IntKind.i64 n_5), V.d (D.l b_6 l_7)] [(4, 5)]])
    fun (o_12 : Out) =>
    unCons o_12.snd fun (x_13 : Ob) (l_14 : List Ob) =>
      unCells x_13 fun (l_15 : List V) (l_16 : Fl) =>
        ift (l_15.length == 5)
          (ift (l_16 == [(4, 5)])
            (unNil l_14
              (asD o_12.fst fun (d_17 : D) =>
                asI IntKind.u8 d_17 fun (n_18 : Int) =>
                  Tr.call (Task.call 46 [V.d (D.i IntKind.u8 n_18)] []) fun (o_19 : Out) =>
                    ift o_19.snd.isEmpty
                      (asD o_19.fst fun (d_20 : D) =>
                        asB d_20 fun (b_21 : Bool) =>
                          brB (!b_21)
                            (Tr.call (Task.call 41 [V.p 0 0, V.d (D.i IntKind.i64 0)] [Ob.cells l_15 [(4, 5)]]) fun (o_22 : Out) =>
                              unCons o_22.snd fun (x_23 : Ob) (l_24 : List Ob) =>
                                unCells x_23 fun (l_25 : List V) (l_26 : Fl) =>
                                  ift (l_25.length == l_15.length)
                                    (ift (l_26 == [(4, 5)])
                                      (unNil l_24
                                        (asD o_22.fst fun (d_27 : D) =>
                                          asI IntKind.u8 d_27 fun (n_28 : Int) =>
                                            brB (n_28 == 46)
                                              (Tr.call (Task.call 41 [V.p 0 0, V.d (D.i IntKind.i64 1)] [Ob.cells l_25 [(4, 5)]]) fun (o_29 : Out) =>
                                                unCons o_29.snd fun (x_30 : Ob) (l_31 : List Ob) =>
                                                  unCells x_30 fun (l_32 : List V) (l_33 : Fl) =>
                                                    ift (l_32.length == l_25.length)
                                                      (ift (l_33 == [(4, 5)])
                                                        (unNil l_31
                                                          (asD o_29.fst fun (d_34 : D) =>
                                                            asI IntKind.u8 d_34 fun (n_35 : Int) =>
                                                              Tr.call (Task.call 46 [V.d (D.i IntKind.u8 n_35)] []) fun (o_36 : Out) =>
                                                                ift o_36.snd.isEmpty
                                                                  (asD o_36.fst fun (d_37 : D) =>
                                                                    asB d_37 fun (b_38 : Bool) =>
                                                                      Tr.call
                                                                        (Task.at_ 47 1 [true, false, true, true] (sv 192 [(0, V.p 0 0), (2, V.d (D.i IntKind.i64 n_0)), (103, V.d (D.b !b_38))]) []
                                                                          [Ob.cells l_32 [(4, 5)]])
                                                                        Tr.ret)))))
                                              (Tr.call
                                                (Task.at_ 47 1 [true, false, true, true] (sv 192 [(0, V.p 0 0), (2, V.d (D.i IntKind.i64 n_0)), (103, V.d (D.b true))]) [] [Ob.cells l_25 [(4, 5)]])
                                                Tr.ret)))))
                            (Tr.call (Task.at_ 47 1 [true, false, true, true] (sv 192 [(0, V.p 0 0), (2, V.d (D.i IntKind.i64 n_0)), (103, V.d (D.b false))]) [] [Ob.cells l_15 [(4, 5)]]) Tr.ret))))))) :=
  rk_of (by kernel_rfl)
theorem t21_at253 (n_0 : Int) (b_1 : Bool) (l_2 : List UInt8) (n_3 : Int) (n_4 : Int) (n_5 : Int) (b_6 : Bool) (l_7 : List D) :
    rk Tryd.prog pol (Task.at_ 21 1 [true, true, true, true, true, false, true] (sv 85 [(0, V.p 0 0), (2, V.d (D.i IntKind.u8 n_0)), (45, V.d (D.b b_1))]) []
  [Ob.cells [V.d (D.s l_2), V.d (D.i IntKind.i64 n_3), V.d (D.i IntKind.i64 n_4), V.d (D.i IntKind.i64 n_5), V.d (D.l b_6 l_7)] [(4, 5)]]) = interp (rk Tryd.prog pol) (
brB b_1
  (Tr.call (Task.call 48 [V.p 0 0] [Ob.cells [V.d (D.s l_2), V.d (D.i IntKind.i64 n_3), V.d (D.i IntKind.i64 n_4), V.d (D.i IntKind.i64 n_5), V.d (D.l b_6 l_7)] [(4, 5)]]) fun (o_0 : Out) =>
    unCons o_0.snd fun (x_1 : Ob) (l_2 : List Ob) =>
      unCells x_1 fun (l_3 : List V) (l_4 : Fl) =>
        ift (l_3.length == 5) (ift (l_4 == [(4, 5)]) (unNil l_2 (unT o_0.fst fun (l_5 : List V) => ift (l_5.length == 0) (Tr.ret (V.t [], [Ob.cells l_3 [(4, 5)]]))))))
  (Tr.call (Task.call 40 [V.d (D.s [123, 125, 40, 41, 91, 93, 60, 62, 44, 59, 58, 61, 42]), V.d (D.i IntKind.u8 n_0)] []) fun (o_6 : Out) =>
    ift o_6.snd.isEmpty
      (asD o_6.fst fun (d_7 : D) =>
        asI IntKind.i64 d_7 fun (n_8 : Int) =>
          brB (decide (n_8 ≥ 0))
            (ift (headOk 5 l_7)
              (ift (b_6 || true)
                (ift (decide (l_7.length + 1 ≤ 4294967296))
                  (Tr.ret
                    (V.t [],
                      [Ob.cells
                          [V.d (D.s l_2), V.d (D.i IntKind.i64 (IntKind.i64.wrap (n_3 + 1))), V.d (D.i IntKind.i64 n_4), V.d (D.i IntKind.i64 n_5),
                            V.d
                              (D.l (b_6 && false) (l_7 ++ [D.g [D.i IntKind.i64 5, D.s (Utf8.encode (IntKind.i32.wrap n_0)).data.toList, D.i IntKind.i64 0, D.i IntKind.u64 0, D.i IntKind.i64 n_3]]))]
                          [(4, 5)]])))))
            (Tr.call
              (Task.call 43 [V.p 0 0, V.d (D.i IntKind.i64 2), V.d (D.i IntKind.i64 n_3)]
                [Ob.cells [V.d (D.s l_2), V.d (D.i IntKind.i64 n_3), V.d (D.i IntKind.i64 n_4), V.d (D.i IntKind.i64 n_5), V.d (D.l b_6 l_7)] [(4, 5)]])
              fun (o_9 : Out) =>
              unCons o_9.snd fun (x_10 : Ob) (l_11 : List Ob) =>
                unCells x_10 fun (l_12 : List V) (l_13 : Fl) =>
                  ift (l_12.length == 5) (ift (l_13 == [(4, 5)]) (unNil l_11 (unT o_9.fst fun (l_14 : List V) => ift (l_14.length == 0) (Tr.ret (V.t [], [Ob.cells l_12 [(4, 5)]]))))))))) :=
  rk_of (by kernel_rfl)
theorem t10_at263 (l_0 : List UInt8) (l_1 : List UInt8) (n_2 : Int) (n_3 : Int) (n_4 : Int) (b_5 : Bool) (l_6 : List D) :
    rk Tryd.prog pol (Task.at_ 10 0 [false, false, false, false, false, true, true, true] (sv 72 [(0, V.d (D.s l_0)), (5, V.p 0 0)]) []
  [Ob.cells [V.d (D.s l_1), V.d (D.i IntKind.i64 n_2), V.d (D.i IntKind.i64 n_3), V.d (D.i IntKind.i64 n_4), V.d (D.l b_5 l_6)] [(4, 5)]]) = interp (rk Tryd.prog pol) (
Tr.call (Task.call 20 [V.p 0 0] [Ob.cells [V.d (D.s l_1), V.d (D.i IntKind.i64 n_2), V.d (D.i IntKind.i64 n_3), V.d (D.i IntKind.i64 n_4), V.d (D.l b_5 l_6)] [(4, 5)]]) fun (o_0 : Out) =>
  unCons o_0.snd fun (x_1 : Ob) (l_2 : List Ob) =>
    unCells x_1 fun (l_3 : List V) (l_4 : Fl) =>
      ift (l_3.length == 5)
        (ift (l_4 == [(4, 5)])
          (unNil l_2
            (asD o_0.fst fun (d_5 : D) =>
              asB d_5 fun (b_6 : Bool) =>
                brB b_6 (Tr.call (Task.at_ 10 0 [false, false, false, false, false, true, true, true] (sv 72 [(0, V.d (D.s l_0)), (5, V.p 0 0)]) [] [Ob.cells l_3 [(4, 5)]]) Tr.ret)
                  (ob l_3[2]? fun (v_7 : V) =>
                    asD v_7 fun (d_8 : D) =>
                      asI IntKind.i64 d_8 fun (n_9 : Int) =>
                        brB (n_9 != 0)
                          (ob l_3[2]? fun (v_10 : V) =>
                            asD v_10 fun (d_11 : D) =>
                              asI IntKind.i64 d_11 fun (n_12 : Int) =>
                                ob l_3[3]? fun (v_13 : V) =>
                                  asD v_13 fun (d_14 : D) => asI IntKind.i64 d_14 fun (n_15 : Int) => Tr.ret (V.t [V.d (D.l true []), V.d (D.i IntKind.i64 n_12), V.d (D.i IntKind.i64 n_15)], []))
                          (ob l_3[1]? fun (v_16 : V) =>
                            asD v_16 fun (d_17 : D) =>
                              asI IntKind.i64 d_17 fun (n_18 : Int) =>
                                ob l_3[0]? fun (v_19 : V) =>
                                  asD v_19 fun (d_20 : D) =>
                                    asS d_20 fun (l_21 : List UInt8) =>
                                      brB (decide (n_18 ≥ (↑l_21.length : Int)))
                                        (ob l_3[4]? fun (v_22 : V) =>
                                          asD
                                            ((sv 72
                                                  [(0, V.d (D.s l_0)), (5, V.p 0 0), (13, V.p 0 0), (14, V.p 0 0), (15, V.p 0 0), (16, V.d (D.b b_6)), (17, V.p 0 0), (18, V.p 0 0), (19, V.p 0 0),
                                                    (20, V.p 0 2), (21, V.d (D.i IntKind.i64 n_9)), (22, V.d (D.b (n_9 != 0))), (33, V.p 0 0), (34, V.p 0 0), (35, V.p 0 0), (36, V.p 0 1),
                                                    (37, V.d (D.i IntKind.i64 n_18)), (38, V.p 0 0), (39, V.p 0 0), (40, V.p 0 0), (41, V.p 0 0), (42, V.d (D.s l_21)),
                                                    (43, V.d (D.i IntKind.i64 (↑l_21.length : Int))), (44, V.d (D.b (decide (n_18 ≥ (↑l_21.length : Int))))), (45, V.p 0 0), (46, V.p 0 0),
                                                    (47, V.p 0 4), (48, v_22), (49, V.d (D.s l_0)), (50, V.d (D.i IntKind.i64 (↑l_0.length : Int))),
                                                    (51, V.d (D.g [D.i IntKind.i64 6, D.s [], D.i IntKind.i64 0, D.i IntKind.u64 0, D.i IntKind.i64 (↑l_0.length : Int)])),
                                                    (52, V.d (D.l true [D.g [D.i IntKind.i64 6, D.s [], D.i IntKind.i64 0, D.i IntKind.u64 0, D.i IntKind.i64 (↑l_0.length : Int)]]))]).getD
                                              48 V.u)
                                            fun (d_23 : D) =>
                                            asL d_23 fun (b_24 : Bool) (l_25 : List D) =>
                                              ift (headOk 5 l_25)
                                                (ift (b_24 || true)
                                                  (ift (decide (l_25.length + 1 ≤ 4294967296))
                                                    (Tr.ret
                                                      (V.t
                                                          [V.d
                                                              (D.l (b_24 && false)
                                                                (l_25 ++ [D.g [D.i IntKind.i64 6, D.s [], D.i IntKind.i64 0, D.i IntKind.u64 0, D.i IntKind.i64 (↑l_0.length : Int)]])),
                                                            V.d (D.i IntKind.i64 0), V.d (D.i IntKind.i64 0)],
                                                        [])))))
                                        (Tr.call (Task.call 21 [V.p 0 0] [Ob.cells l_3 [(4, 5)]]) fun (o_26 : Out) =>
                                          unCons o_26.snd fun (x_27 : Ob) (l_28 : List Ob) =>
                                            unCells x_27 fun (l_29 : List V) (l_30 : Fl) =>
                                              ift (l_29.length == l_3.length)
                                                (ift (l_30 == [(4, 5)])
                                                  (unNil l_28
                                                    (unT o_26.fst fun (l_31 : List V) =>
                                                      ift (l_31.length == 0)
                                                        (ob l_29[2]? fun (v_32 : V) =>
                                                          asD v_32 fun (d_33 : D) =>
                                                            asI IntKind.i64 d_33 fun (n_34 : Int) =>
                                                              brB (n_34 != 0)
                                                                (ob l_29[2]? fun (v_35 : V) =>
                                                                  asD v_35 fun (d_36 : D) =>
                                                                    asI IntKind.i64 d_36 fun (n_37 : Int) =>
                                                                      ob l_29[3]? fun (v_38 : V) =>
                                                                        asD v_38 fun (d_39 : D) =>
                                                                          asI IntKind.i64 d_39 fun (n_40 : Int) =>
                                                                            Tr.ret (V.t [V.d (D.l true []), V.d (D.i IntKind.i64 n_37), V.d (D.i IntKind.i64 n_40)], []))
                                                                (Tr.call (Task.at_ 10 0 [false, true, true, true] (sv 72 [(0, V.d (D.s l_0)), (5, V.p 0 0)]) [] [Ob.cells l_29 [(4, 5)]])
                                                                  Tr.ret)))))))))))) :=
  rk_of (by kernel_rfl)
theorem t4_at25183 (l_0 : List UInt8) (b_1 : Bool) (l_2 : List D) (n_3 : Int) (b_4 : Bool) :
    rk Tryd.prog pol (Task.at_ 4 0 [true, false, false, false, true, false, false, true, false, true, true, true, true, true]
  (sv 148 [(0, V.d (D.s l_0)), (3, V.d (D.l b_1 l_2)), (6, V.d (D.i IntKind.i64 n_3)), (86, V.d (D.b b_4))]) [] []) = interp (rk Tryd.prog pol) (
brB b_4 (Tr.ret (V.d (D.b false), []))
  (ob (getI l_2 n_3) fun (d_0 : D) =>
    ift (d_0.width == 5)
      (ob l_2[n_3.toNat]? fun (d_1 : D) =>
        ob d_1.cells[0]? fun (d_2 : D) =>
          asI IntKind.i64 d_2 fun (n_3_1 : Int) =>
            brB (n_3_1 == 1)
              (ob (getI l_2 n_3) fun (d_4 : D) =>
                ift (d_4.width == 5)
                  (ob l_2[n_3.toNat]? fun (d_5 : D) =>
                    ob d_5.cells[4]? fun (d_6 : D) =>
                      asI IntKind.i64 d_6 fun (n_7 : Int) =>
                        ob (getI l_2 n_3) fun (d_8 : D) =>
                          ift (d_8.width == 5)
                            (ob l_2[n_3.toNat]? fun (d_9 : D) =>
                              ob d_9.cells[1]? fun (d_10 : D) =>
                                asS d_10 fun (l_11 : List UInt8) =>
                                  brB (decide (IntKind.i64.wrap (n_7 + (↑l_11.length : Int)) > (↑l_0.length : Int)))
                                    (Tr.call
                                      (Task.at_ 4 0 [true, true, false, false, true, false, false, true, false, true, true, true, true, true]
                                        (sv 148 [(0, V.d (D.s l_0)), (3, V.d (D.l b_1 l_2)), (6, V.d (D.i IntKind.i64 n_3)), (144, V.d (D.b true))]) [] [])
                                      Tr.ret)
                                    (ob (getI l_2 n_3) fun (d_12 : D) =>
                                      ift (d_12.width == 5)
                                        (ob l_2[n_3.toNat]? fun (d_13 : D) =>
                                          ob d_13.cells[4]? fun (d_14 : D) =>
                                            asI IntKind.i64 d_14 fun (n_15 : Int) =>
                                              ob (getI l_2 n_3) fun (d_16 : D) =>
                                                ift (d_16.width == 5)
                                                  (ob l_2[n_3.toNat]? fun (d_17 : D) =>
                                                    ob d_17.cells[4]? fun (d_18 : D) =>
                                                      asI IntKind.i64 d_18 fun (n_19 : Int) =>
                                                        ob (getI l_2 n_3) fun (d_20 : D) =>
                                                          ift (d_20.width == 5)
                                                            (ob l_2[n_3.toNat]? fun (d_21 : D) =>
                                                              ob d_21.cells[1]? fun (d_22 : D) =>
                                                                asS d_22 fun (l_23 : List UInt8) =>
                                                                  ift
                                                                    (decide (0 ≤ IntKind.i64.wrap (n_19 + (↑l_23.length : Int)) ∧ IntKind.i64.wrap (n_19 + (↑l_23.length : Int)) ≤ (↑l_0.length : Int)))
                                                                    (ift (decide (0 ≤ n_15 ∧ n_15 ≤ (↑(IntKind.i64.wrap (n_19 + (↑l_23.length : Int))).toNat : Int)))
                                                                      (ob (getI l_2 n_3) fun (d_24 : D) =>
                                                                        ift (d_24.width == 5)
                                                                          (ob l_2[n_3.toNat]? fun (d_25 : D) =>
                                                                            ob d_25.cells[1]? fun (d_26 : D) =>
                                                                              asS d_26 fun (l_27 : List UInt8) =>
                                                                                Tr.call
                                                                                  (Task.at_ 4 0 [true, true, false, false, true, false, false, true, false, true, true, true, true, true]
                                                                                    (sv 148
                                                                                      [(0, V.d (D.s l_0)), (3, V.d (D.l b_1 l_2)), (6, V.d (D.i IntKind.i64 n_3)),
                                                                                        (144,
                                                                                          V.d
                                                                                            (D.b
                                                                                              !List.take ((IntKind.i64.wrap (n_19 + (↑l_23.length : Int))).toNat - n_15.toNat)
                                                                                                    (List.drop n_15.toNat l_0) ==
                                                                                                  l_27))])
                                                                                    [] [])
                                                                                  Tr.ret))))))))))
              (ob (getI l_2 n_3) fun (d_28 : D) =>
                ift (d_28.width == 5)
                  (ob l_2[n_3.toNat]? fun (d_29 : D) =>
                    ob d_29.cells[0]? fun (d_30 : D) =>
                      asI IntKind.i64 d_30 fun (n_31 : Int) =>
                        brB (n_31 == 5)
                          (ob (getI l_2 n_3) fun (d_32 : D) =>
                            ift (d_32.width == 5)
                              (ob l_2[n_3.toNat]? fun (d_33 : D) =>
                                ob d_33.cells[4]? fun (d_34 : D) =>
                                  asI IntKind.i64 d_34 fun (n_35 : Int) =>
                                    ob (getI l_2 n_3) fun (d_36 : D) =>
                                      ift (d_36.width == 5)
                                        (ob l_2[n_3.toNat]? fun (d_37 : D) =>
                                          ob d_37.cells[1]? fun (d_38 : D) =>
                                            asS d_38 fun (l_39 : List UInt8) =>
                                              brB (decide (IntKind.i64.wrap (n_35 + (↑l_39.length : Int)) > (↑l_0.length : Int)))
                                                (Tr.call
                                                  (Task.at_ 4 0 [true, true, false, false, true, false, false, true, false, true, true, true, true, true]
                                                    (sv 148 [(0, V.d (D.s l_0)), (3, V.d (D.l b_1 l_2)), (6, V.d (D.i IntKind.i64 n_3)), (144, V.d (D.b true))]) [] [])
                                                  Tr.ret)
                                                (ob (getI l_2 n_3) fun (d_40 : D) =>
                                                  ift (d_40.width == 5)
                                                    (ob l_2[n_3.toNat]? fun (d_41 : D) =>
                                                      ob d_41.cells[4]? fun (d_42 : D) =>
                                                        asI IntKind.i64 d_42 fun (n_43 : Int) =>
                                                          ob (getI l_2 n_3) fun (d_44 : D) =>
                                                            ift (d_44.width == 5)
                                                              (ob l_2[n_3.toNat]? fun (d_45 : D) =>
                                                                ob d_45.cells[4]? fun (d_46 : D) =>
                                                                  asI IntKind.i64 d_46 fun (n_47 : Int) =>
                                                                    ob (getI l_2 n_3) fun (d_48 : D) =>
                                                                      ift (d_48.width == 5)
                                                                        (ob l_2[n_3.toNat]? fun (d_49 : D) =>
                                                                          ob d_49.cells[1]? fun (d_50 : D) =>
                                                                            asS d_50 fun (l_51 : List UInt8) =>
                                                                              ift
                                                                                (decide
                                                                                  (0 ≤ IntKind.i64.wrap (n_47 + (↑l_51.length : Int)) ∧
                                                                                    IntKind.i64.wrap (n_47 + (↑l_51.length : Int)) ≤ (↑l_0.length : Int)))
                                                                                (ift (decide (0 ≤ n_43 ∧ n_43 ≤ (↑(IntKind.i64.wrap (n_47 + (↑l_51.length : Int))).toNat : Int)))
                                                                                  (ob (getI l_2 n_3) fun (d_52 : D) =>
                                                                                    ift (d_52.width == 5)
                                                                                      (ob l_2[n_3.toNat]? fun (d_53 : D) =>
                                                                                        ob d_53.cells[1]? fun (d_54 : D) =>
                                                                                          asS d_54 fun (l_55 : List UInt8) =>
                                                                                            Tr.call
                                                                                              (Task.at_ 4 0 [true, true, false, false, true, false, false, true, false, true, true, true, true, true]
                                                                                                (sv 148
                                                                                                  [(0, V.d (D.s l_0)), (3, V.d (D.l b_1 l_2)), (6, V.d (D.i IntKind.i64 n_3)),
                                                                                                    (144,
                                                                                                      V.d
                                                                                                        (D.b
                                                                                                          !List.take ((IntKind.i64.wrap (n_47 + (↑l_51.length : Int))).toNat - n_43.toNat)
                                                                                                                (List.drop n_43.toNat l_0) ==
                                                                                                              l_55))])
                                                                                                [] [])
                                                                                              Tr.ret))))))))))
                          (Tr.call
                            (Task.at_ 4 0 [true, true, false, false, true, false, false, true, false, true, true, true, true, true]
                              (sv 148 [(0, V.d (D.s l_0)), (3, V.d (D.l b_1 l_2)), (6, V.d (D.i IntKind.i64 n_3)), (144, V.d (D.b false))]) [] [])
                            Tr.ret)))))) :=
  rk_of (by kernel_rfl)
theorem t5_at29279 (b_0 : Bool) (l_1 : List D) (b_2 : Bool) (l_3 : List D) (b_4 : Bool) (l_5 : List D) (n_6 : Int) (b_7 : Bool) :
    rk Tryd.prog pol (Task.at_ 5 0 [true, true, false, false, true, false, false, true, false, true, true, true, true, true]
  (sv 110 [(1, V.d (D.l b_0 l_1)), (2, V.d (D.l b_2 l_3)), (3, V.d (D.l b_4 l_5)), (4, V.d (D.i IntKind.i64 n_6)), (47, V.d (D.b b_7))]) [] []) = interp (rk Tryd.prog pol) (
brB b_7 (Tr.ret (V.d (D.b false), []))
  (Tr.call
    (Task.at_ 5 0 [false, true, false, true, true, true, true, true]
      (sv 110 [(1, V.d (D.l b_0 l_1)), (2, V.d (D.l b_2 l_3)), (3, V.d (D.l b_4 l_5)), (4, V.d (D.i IntKind.i64 (IntKind.i64.wrap (n_6 + 1))))]) [] [])
    Tr.ret)) :=
  rk_of (by kernel_rfl)
theorem t85_at3767 (b_0 : Bool) (n_1 : Int) (b_2 : Bool) (l_3 : List V) :
    rk Tryd.prog pol (Task.at_ 85 1 [true, true, false, true, false, true, true, false, true, true, true] (sv 73 [(0, V.p 0 0), (3, V.d (D.b b_0)), (5, V.d (D.i IntKind.i64 n_1)), (51, V.d (D.b b_2))]) []
  [Ob.cells l_3 [(4, 5)]]) = interp (rk Tryd.prog pol) (
brB b_2
  (Tr.call (Task.call 41 [V.p 0 0, V.d (D.i IntKind.i64 2)] [Ob.cells l_3 [(4, 5)]]) fun (o_0 : Out) =>
    unCons o_0.snd fun (x_1 : Ob) (l_2 : List Ob) =>
      unCells x_1 fun (l_3_1 : List V) (l_4 : Fl) =>
        ift (l_3_1.length == l_3.length)
          (ift (l_4 == [(4, 5)])
            (unNil l_2
              (asD o_0.fst fun (d_5 : D) =>
                asI IntKind.u8 d_5 fun (n_6 : Int) =>
                  Tr.call (Task.call 46 [V.d (D.i IntKind.u8 n_6)] []) fun (o_7 : Out) =>
                    ift o_7.snd.isEmpty
                      (asD o_7.fst fun (d_8 : D) =>
                        asB d_8 fun (b_9 : Bool) =>
                          brB b_9
                            (ob l_3_1[1]? fun (v_10 : V) =>
                              asD v_10 fun (d_11 : D) =>
                                asI IntKind.i64 d_11 fun (n_12 : Int) =>
                                  ift (decide (1 < l_3_1.length) && true)
                                    (Tr.call (Task.call 79 [V.p 0 0, V.f 46 []] [Ob.cells (l_3_1.set 1 (V.d (D.i IntKind.i64 (IntKind.i64.wrap (n_12 + 2))))) [(4, 5)]]) fun (o_13 : Out) =>
                                      unCons o_13.snd fun (x_14 : Ob) (l_15 : List Ob) =>
                                        unCells x_14 fun (l_16 : List V) (l_17 : Fl) =>
                                          ift (l_16.length == (l_3_1.set 1 (V.d (D.i IntKind.i64 (IntKind.i64.wrap (n_12 + 2))))).length)
                                            (ift (l_17 == [(4, 5)]) (unNil l_15 (unT o_13.fst fun (l_18 : List V) => ift (l_18.length == 0) (Tr.ret (V.d (D.b true), [Ob.cells l_16 [(4, 5)]])))))))
                            (Tr.ret (V.d (D.b b_0), [Ob.cells l_3_1 [(4, 5)]])))))))
  (Tr.call (Task.call 41 [V.p 0 0, V.d (D.i IntKind.i64 n_1)] [Ob.cells l_3 [(4, 5)]]) fun (o_19 : Out) =>
    unCons o_19.snd fun (x_20 : Ob) (l_21 : List Ob) =>
      unCells x_20 fun (l_22 : List V) (l_23 : Fl) =>
        ift (l_22.length == l_3.length)
          (ift (l_23 == [(4, 5)])
            (unNil l_21
              (asD o_19.fst fun (d_24 : D) =>
                asI IntKind.u8 d_24 fun (n_25 : Int) =>
                  Tr.call (Task.call 46 [V.d (D.i IntKind.u8 n_25)] []) fun (o_26 : Out) =>
                    ift o_26.snd.isEmpty
                      (asD o_26.fst fun (d_27 : D) =>
                        asB d_27 fun (b_28 : Bool) =>
                          brB b_28
                            (ob l_22[1]? fun (v_29 : V) =>
                              asD v_29 fun (d_30 : D) =>
                                asI IntKind.i64 d_30 fun (n_31 : Int) =>
                                  ift (decide (1 < l_22.length) && true)
                                    (Tr.call (Task.call 79 [V.p 0 0, V.f 46 []] [Ob.cells (l_22.set 1 (V.d (D.i IntKind.i64 (IntKind.i64.wrap (n_31 + n_1))))) [(4, 5)]]) fun (o_32 : Out) =>
                                      unCons o_32.snd fun (x_33 : Ob) (l_34 : List Ob) =>
                                        unCells x_33 fun (l_35 : List V) (l_36 : Fl) =>
                                          ift (l_35.length == (l_22.set 1 (V.d (D.i IntKind.i64 (IntKind.i64.wrap (n_31 + n_1))))).length)
                                            (ift (l_36 == [(4, 5)]) (unNil l_34 (unT o_32.fst fun (l_37 : List V) => ift (l_37.length == 0) (Tr.ret (V.d (D.b true), [Ob.cells l_35 [(4, 5)]])))))))
                            (Tr.ret (V.d (D.b b_0), [Ob.cells l_22 [(4, 5)]])))))))) :=
  rk_of (by kernel_rfl)
theorem t47_at30207 (n_0 : Int) (n_1 : Int) (b_2 : Bool) (n_3 : Int) (l_4 : List UInt8) (n_5 : Int) (n_6 : Int) (n_7 : Int) (l_8 : List V) :
    rk Tryd.prog pol (Task.at_ 47 1 [true, true, false, true, false, true, true, true, true, true, true, true, true, true]
  (sv 192 [(0, V.p 0 0), (2, V.d (D.i IntKind.i64 n_0)), (7, V.p 1 0), (8, V.d (D.i IntKind.i64 n_1)), (9, V.d (D.b b_2))]) []
  [Ob.cells [V.d (D.i IntKind.i64 n_3), V.d (D.s l_4), V.d (D.i IntKind.i64 n_5), V.d (D.i IntKind.u64 n_6), V.d (D.i IntKind.i64 n_7)] [], Ob.cells l_8 [(4, 5)]]) = interp (rk Tryd.prog pol) (
brB (!b_2)
  (Tr.call (Task.call 43 [V.p 0 0, V.d (D.i IntKind.i64 5), V.d (D.i IntKind.i64 n_0)] [Ob.cells l_8 [(4, 5)]]) fun (o_0 : Out) =>
    unCons o_0.snd fun (x_1 : Ob) (l_2 : List Ob) =>
      unCells x_1 fun (l_3 : List V) (l_4_1 : Fl) =>
        ift (l_3.length == l_8.length)
          (ift (l_4_1 == [(4, 5)])
            (unNil l_2
              (unT o_0.fst fun (l_5 : List V) =>
                ift (l_5.length == 0)
                  (Tr.call
                    (Task.at_ 47 1 [true, true, true, false, true, false, true, true, true, true, true, true, true, true, true] (sv 192 [(0, V.p 0 0), (7, V.p 1 0), (8, V.d (D.i IntKind.i64 n_1))]) []
                      [Ob.cells [V.d (D.i IntKind.i64 n_3), V.d (D.s l_4), V.d (D.i IntKind.i64 n_5), V.d (D.i IntKind.u64 n_6), V.d (D.i IntKind.i64 n_7)] [], Ob.cells l_3 [(4, 5)]])
                    Tr.ret)))))
  (Tr.call
    (Task.at_ 47 1 [true, true, true, false, true, false, true, true, true, true, true, true, true, true, true] (sv 192 [(0, V.p 0 0), (7, V.p 1 0), (8, V.d (D.i IntKind.i64 n_1))]) []
      [Ob.cells [V.d (D.i IntKind.i64 n_3), V.d (D.s l_4), V.d (D.i IntKind.i64 n_5), V.d (D.i IntKind.u64 n_6), V.d (D.i IntKind.i64 n_7)] [], Ob.cells l_8 [(4, 5)]])
    Tr.ret)) :=
  rk_of (by kernel_rfl)
theorem t47_at32255 (n_0 : Int) (n_1 : Int) (l_2 : List UInt8) (n_3 : Int) (n_4 : Int) (n_5 : Int) (l_6 : List V) :
    rk Tryd.prog pol (Task.at_ 47 1 [true, true, true, true, false, true, true, true, true, true, true, true, true, true] (sv 192 [(0, V.p 0 0), (7, V.p 1 0), (10, V.d (D.i IntKind.u64 n_0))]) []
  [Ob.cells [V.d (D.i IntKind.i64 n_1), V.d (D.s l_2), V.d (D.i IntKind.i64 n_3), V.d (D.i IntKind.u64 n_4), V.d (D.i IntKind.i64 n_5)] [], Ob.cells l_6 [(4, 5)]]) = interp (rk Tryd.prog pol) (
Tr.call
  (Task.at_ 47 1 [true, true, true, true, true, true, true, true, true, true] (sv 192 [(0, V.p 0 0), (7, V.p 1 0)]) []
    [Ob.cells [V.d (D.i IntKind.i64 n_1), V.d (D.s l_2), V.d (D.i IntKind.i64 n_3), V.d (D.i IntKind.u64 n_0), V.d (D.i IntKind.i64 n_5)] [], Ob.cells l_6 [(4, 5)]])
  Tr.ret) :=
  rk_of (by kernel_rfl)
theorem t10_at263_1 (l_0 : List UInt8) (l_1 : List V) :
    rk Tryd.prog pol (Task.at_ 10 0 [false, false, false, false, false, true, true, true] (sv 72 [(0, V.d (D.s l_0)), (5, V.p 0 0)]) [] [Ob.cells l_1 [(4, 5)]]) = interp (rk Tryd.prog pol) (
Tr.call (Task.call 20 [V.p 0 0] [Ob.cells l_1 [(4, 5)]]) fun (o_0 : Out) =>
  unCons o_0.snd fun (x_1 : Ob) (l_2 : List Ob) =>
    unCells x_1 fun (l_3 : List V) (l_4 : Fl) =>
      ift (l_3.length == l_1.length)
        (ift (l_4 == [(4, 5)])
          (unNil l_2
            (asD o_0.fst fun (d_5 : D) =>
              asB d_5 fun (b_6 : Bool) =>
                brB b_6 (Tr.call (Task.at_ 10 0 [false, false, false, false, false, true, true, true] (sv 72 [(0, V.d (D.s l_0)), (5, V.p 0 0)]) [] [Ob.cells l_3 [(4, 5)]]) Tr.ret)
                  (ob l_3[2]? fun (v_7 : V) =>
                    asD v_7 fun (d_8 : D) =>
                      asI IntKind.i64 d_8 fun (n_9 : Int) =>
                        brB (n_9 != 0)
                          (ob l_3[2]? fun (v_10 : V) =>
                            asD v_10 fun (d_11 : D) =>
                              asI IntKind.i64 d_11 fun (n_12 : Int) =>
                                ob l_3[3]? fun (v_13 : V) =>
                                  asD v_13 fun (d_14 : D) => asI IntKind.i64 d_14 fun (n_15 : Int) => Tr.ret (V.t [V.d (D.l true []), V.d (D.i IntKind.i64 n_12), V.d (D.i IntKind.i64 n_15)], []))
                          (ob l_3[1]? fun (v_16 : V) =>
                            asD v_16 fun (d_17 : D) =>
                              asI IntKind.i64 d_17 fun (n_18 : Int) =>
                                ob l_3[0]? fun (v_19 : V) =>
                                  asD v_19 fun (d_20 : D) =>
                                    asS d_20 fun (l_21 : List UInt8) =>
                                      brB (decide (n_18 ≥ (↑l_21.length : Int)))
                                        (ob l_3[4]? fun (v_22 : V) =>
                                          asD
                                            ((sv 72
                                                  [(0, V.d (D.s l_0)), (5, V.p 0 0), (13, V.p 0 0), (14, V.p 0 0), (15, V.p 0 0), (16, V.d (D.b b_6)), (17, V.p 0 0), (18, V.p 0 0), (19, V.p 0 0),
                                                    (20, V.p 0 2), (21, V.d (D.i IntKind.i64 n_9)), (22, V.d (D.b (n_9 != 0))), (33, V.p 0 0), (34, V.p 0 0), (35, V.p 0 0), (36, V.p 0 1),
                                                    (37, V.d (D.i IntKind.i64 n_18)), (38, V.p 0 0), (39, V.p 0 0), (40, V.p 0 0), (41, V.p 0 0), (42, V.d (D.s l_21)),
                                                    (43, V.d (D.i IntKind.i64 (↑l_21.length : Int))), (44, V.d (D.b (decide (n_18 ≥ (↑l_21.length : Int))))), (45, V.p 0 0), (46, V.p 0 0),
                                                    (47, V.p 0 4), (48, v_22), (49, V.d (D.s l_0)), (50, V.d (D.i IntKind.i64 (↑l_0.length : Int))),
                                                    (51, V.d (D.g [D.i IntKind.i64 6, D.s [], D.i IntKind.i64 0, D.i IntKind.u64 0, D.i IntKind.i64 (↑l_0.length : Int)])),
                                                    (52, V.d (D.l true [D.g [D.i IntKind.i64 6, D.s [], D.i IntKind.i64 0, D.i IntKind.u64 0, D.i IntKind.i64 (↑l_0.length : Int)]]))]).getD
                                              48 V.u)
                                            fun (d_23 : D) =>
                                            asL d_23 fun (b_24 : Bool) (l_25 : List D) =>
                                              ift (headOk 5 l_25)
                                                (ift (b_24 || true)
                                                  (ift (decide (l_25.length + 1 ≤ 4294967296))
                                                    (Tr.ret
                                                      (V.t
                                                          [V.d
                                                              (D.l (b_24 && false)
                                                                (l_25 ++ [D.g [D.i IntKind.i64 6, D.s [], D.i IntKind.i64 0, D.i IntKind.u64 0, D.i IntKind.i64 (↑l_0.length : Int)]])),
                                                            V.d (D.i IntKind.i64 0), V.d (D.i IntKind.i64 0)],
                                                        [])))))
                                        (Tr.call (Task.call 21 [V.p 0 0] [Ob.cells l_3 [(4, 5)]]) fun (o_26 : Out) =>
                                          unCons o_26.snd fun (x_27 : Ob) (l_28 : List Ob) =>
                                            unCells x_27 fun (l_29 : List V) (l_30 : Fl) =>
                                              ift (l_29.length == l_3.length)
                                                (ift (l_30 == [(4, 5)])
                                                  (unNil l_28
                                                    (unT o_26.fst fun (l_31 : List V) =>
                                                      ift (l_31.length == 0)
                                                        (ob l_29[2]? fun (v_32 : V) =>
                                                          asD v_32 fun (d_33 : D) =>
                                                            asI IntKind.i64 d_33 fun (n_34 : Int) =>
                                                              brB (n_34 != 0)
                                                                (ob l_29[2]? fun (v_35 : V) =>
                                                                  asD v_35 fun (d_36 : D) =>
                                                                    asI IntKind.i64 d_36 fun (n_37 : Int) =>
                                                                      ob l_29[3]? fun (v_38 : V) =>
                                                                        asD v_38 fun (d_39 : D) =>
                                                                          asI IntKind.i64 d_39 fun (n_40 : Int) =>
                                                                            Tr.ret (V.t [V.d (D.l true []), V.d (D.i IntKind.i64 n_37), V.d (D.i IntKind.i64 n_40)], []))
                                                                (Tr.call (Task.at_ 10 0 [false, true, true, true] (sv 72 [(0, V.d (D.s l_0)), (5, V.p 0 0)]) [] [Ob.cells l_29 [(4, 5)]])
                                                                  Tr.ret)))))))))))) :=
  rk_of (by kernel_rfl)
theorem t10_at23_1 (l_0 : List UInt8) (l_1 : List V) :
    rk Tryd.prog pol (Task.at_ 10 0 [false, true, true, true] (sv 72 [(0, V.d (D.s l_0)), (5, V.p 0 0)]) [] [Ob.cells l_1 [(4, 5)]]) = interp (rk Tryd.prog pol) (
Tr.call (Task.at_ 10 0 [false, false, false, false, false, true, true, true] (sv 72 [(0, V.d (D.s l_0)), (5, V.p 0 0)]) [] [Ob.cells l_1 [(4, 5)]]) Tr.ret) :=
  rk_of (by kernel_rfl)
theorem t4_at29279 (l_0 : List UInt8) (b_1 : Bool) (l_2 : List D) (n_3 : Int) (b_4 : Bool) :
    rk Tryd.prog pol (Task.at_ 4 0 [true, true, false, false, true, false, false, true, false, true, true, true, true, true]
  (sv 148 [(0, V.d (D.s l_0)), (3, V.d (D.l b_1 l_2)), (6, V.d (D.i IntKind.i64 n_3)), (144, V.d (D.b b_4))]) [] []) = interp (rk Tryd.prog pol) (
brB b_4 (Tr.ret (V.d (D.b false), []))
  (Tr.call (Task.at_ 4 0 [false, true, false, true, true, true, true, true] (sv 148 [(0, V.d (D.s l_0)), (3, V.d (D.l b_1 l_2)), (6, V.d (D.i IntKind.i64 (IntKind.i64.wrap (n_3 + 1))))]) [] [])
    Tr.ret)) :=
  rk_of (by kernel_rfl)
theorem t47_at62975 (n_0 : Int) (n_1 : Int) (l_2 : List UInt8) (n_3 : Int) (n_4 : Int) (n_5 : Int) (l_6 : List V) :
    rk Tryd.prog pol (Task.at_ 47 1 [true, true, true, false, true, false, true, true, true, true, true, true, true, true, true] (sv 192 [(0, V.p 0 0), (7, V.p 1 0), (8, V.d (D.i IntKind.i64 n_0))]) []
  [Ob.cells [V.d (D.i IntKind.i64 n_1), V.d (D.s l_2), V.d (D.i IntKind.i64 n_3), V.d (D.i IntKind.u64 n_4), V.d (D.i IntKind.i64 n_5)] [], Ob.cells l_6 [(4, 5)]]) = interp (rk Tryd.prog pol) (
Tr.call
  (Task.at_ 47 1 [true, true, true, true, true, true, true, true, true, true] (sv 192 [(0, V.p 0 0), (7, V.p 1 0)]) []
    [Ob.cells [V.d (D.i IntKind.i64 2), V.d (D.s l_2), V.d (D.i IntKind.i64 n_0), V.d (D.i IntKind.u64 n_4), V.d (D.i IntKind.i64 n_5)] [], Ob.cells l_6 [(4, 5)]])
  Tr.ret) :=
  rk_of (by kernel_rfl)
theorem t47_at2047 (n_0 : Int) (l_1 : List UInt8) (n_2 : Int) (n_3 : Int) (n_4 : Int) (l_5 : List V) :
    rk Tryd.prog pol (Task.at_ 47 1 [true, true, true, true, true, true, true, true, true, true] (sv 192 [(0, V.p 0 0), (7, V.p 1 0)]) []
  [Ob.cells [V.d (D.i IntKind.i64 n_0), V.d (D.s l_1), V.d (D.i IntKind.i64 n_2), V.d (D.i IntKind.u64 n_3), V.d (D.i IntKind.i64 n_4)] [], Ob.cells l_5 [(4, 5)]]) = interp (rk Tryd.prog pol) (
ob l_5[4]? fun (v_0 : V) =>
  asD
    ((sv 192
          [(0, V.p 0 0), (7, V.p 1 0), (180, V.p 0 0), (181, V.p 0 0), (182, V.p 0 0), (183, V.p 0 4), (184, v_0),
            (185, V.d (D.g [D.i IntKind.i64 n_0, D.s l_1, D.i IntKind.i64 n_2, D.i IntKind.u64 n_3, D.i IntKind.i64 n_4])),
            (186, V.d (D.l true [D.g [D.i IntKind.i64 n_0, D.s l_1, D.i IntKind.i64 n_2, D.i IntKind.u64 n_3, D.i IntKind.i64 n_4]]))]).getD
      184 V.u)
    fun (d_1 : D) =>
    asL d_1 fun (b_2 : Bool) (l_3 : List D) =>
      ift (headOk 5 l_3)
        (ift (b_2 || true)
          (ift (decide (l_3.length + 1 ≤ 4294967296))
            (ift (decide (4 < l_5.length) && true)
              (Tr.call
                (Task.call 84 [V.p 0 0]
                  [Ob.cells (l_5.set 4 (V.d (D.l (b_2 && false) (l_3 ++ [D.g [D.i IntKind.i64 n_0, D.s l_1, D.i IntKind.i64 n_2, D.i IntKind.u64 n_3, D.i IntKind.i64 n_4]])))) [(4, 5)]])
                fun (o_4 : Out) =>
                unCons o_4.snd fun (x_5 : Ob) (l_6 : List Ob) =>
                  unCells x_5 fun (l_7 : List V) (l_8 : Fl) =>
                    ift (l_7.length == (l_5.set 4 (V.d (D.l (b_2 && false) (l_3 ++ [D.g [D.i IntKind.i64 n_0, D.s l_1, D.i IntKind.i64 n_2, D.i IntKind.u64 n_3, D.i IntKind.i64 n_4]])))).length)
                      (ift (l_8 == [(4, 5)]) (unNil l_6 (unT o_4.fst fun (l_9 : List V) => ift (l_9.length == 0) (Tr.ret (V.t [], [Ob.cells l_7 [(4, 5)]])))))))))) :=
  rk_of (by kernel_rfl)
end Go.Dn.Dec
