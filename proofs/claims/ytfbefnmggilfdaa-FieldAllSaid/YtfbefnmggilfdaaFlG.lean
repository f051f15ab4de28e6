/- field: what each step comes to. Printed by a program of mine. -/
import Derived.Test.YtfbefnmggilfdaaFlA
import Derived.Test.YtfbefnmggilfdaaDn4
import Derived.KernelRfl
namespace Go.Dn.Field
open Go.Proofs
theorem f10 (fa : Bool) (xs : List D) (fb : Bool) (ys : List D) :
    rk Try.prog pol (Task.call 10 [V.d (D.l fa xs), V.d (D.l fb ys)] []) = interp (rk Try.prog pol) (
brB ((↑xs.length : Int) != (↑ys.length : Int)) (Tr.ret (V.d (D.b false), []))
  (Tr.call (Task.at_ 10 0 [false, true, false, true, true] (sv 26 [(0, V.d (D.l fa xs)), (1, V.d (D.l fb ys)), (5, V.d (D.i IntKind.i64 0))]) [] []) Tr.ret)) :=
  rk_of (by kernel_rfl)
theorem f8 (fa : Bool) (xs : List D) :
    rk Try.prog pol (Task.call 8 [V.d (D.l fa xs)] []) = interp (rk Try.prog pol) (
Tr.call
  (Task.at_ 8 0 [false, true, false, true, true, true]
    (sv 58 [(2, V.d (D.l true [])), (4, V.mp 0), (5, V.mp 1), (6, V.d (D.i IntKind.i64 0)), (12, V.d (D.l fa xs)), (13, V.d (D.i IntKind.i64 (↑xs.length : Int))), (14, V.d (D.i IntKind.i64 0))])
    [(2, 1)] [Ob.map [], Ob.map []])
  Tr.ret) :=
  rk_of (by kernel_rfl)
theorem f9 (fa : Bool) (xs : List D) :
    rk Try.prog pol (Task.call 9 [V.d (D.l fa xs)] []) = interp (rk Try.prog pol) (
Tr.call (Task.at_ 9 0 [false, true, false, true, true, true] (sv 73 [(0, V.d (D.l fa xs)), (4, V.d (D.l true [])), (5, V.d (D.i IntKind.i64 0)), (6, V.d (D.i IntKind.i64 0))]) [(4, 1)] []) Tr.ret) :=
  rk_of (by kernel_rfl)
theorem f12 (fa : Bool) (xs : List D) :
    rk Try.prog pol (Task.call 12 [V.d (D.l fa xs)] []) = interp (rk Try.prog pol) (
Tr.call (Task.at_ 12 0 [false, true, false, true, true] (sv 45 [(0, V.d (D.l fa xs)), (3, V.d (D.l true [])), (4, V.d (D.i IntKind.i64 0))]) [(3, 1)] []) Tr.ret) :=
  rk_of (by kernel_rfl)
theorem f3 (fa : Bool) (xs : List D) (fb : Bool) (ys : List D) :
    rk Try.prog pol (Task.call 3 [V.d (D.l fa xs), V.d (D.l fb ys)] []) = interp (rk Try.prog pol) (
Tr.call (Task.call 7 [] []) fun (o_0 : Out) =>
  ift o_0.snd.isEmpty
    (asD o_0.fst fun (d_1 : D) =>
      asB d_1 fun (b_2 : Bool) =>
        brB (!b_2) (Tr.ret (V.d (D.b false), []))
          (brB (decide ((↑xs.length : Int) > 20)) (Tr.call (Task.at_ 3 0 [true, false, true, true] (sv 44 [(0, V.d (D.l fa xs)), (1, V.d (D.l fb ys)), (18, V.d (D.b true))]) [] []) Tr.ret)
            (Tr.call (Task.at_ 3 0 [true, false, true, true] (sv 44 [(0, V.d (D.l fa xs)), (1, V.d (D.l fb ys)), (18, V.d (D.b (decide ((↑ys.length : Int) > 20))))]) [] []) Tr.ret)))) :=
  rk_of (by kernel_rfl)
theorem f4 (fa : Bool) (xs : List D) :
    rk Try.prog pol (Task.call 4 [V.d (D.l fa xs)] []) = interp (rk Try.prog pol) (
Tr.call (Task.call 7 [] []) fun (o_0 : Out) =>
  ift o_0.snd.isEmpty
    (asD o_0.fst fun (d_1 : D) =>
      asB d_1 fun (b_2 : Bool) =>
        brB (!b_2) (Tr.ret (V.d (D.b false), []))
          (brB (decide ((↑xs.length : Int) > 15)) (Tr.ret (V.d (D.b true), []))
            (Tr.call
              (Task.at_ 4 0 [false, true, false, true, true, true, true, true, true]
                (sv 163 [(0, V.d (D.l fa xs)), (3, V.d (D.l true [])), (4, V.p 0 0), (5, V.d (D.b false)), (6, V.d (D.i IntKind.i64 0))]) [(3, 11)]
                [Ob.cells (List.replicate 300 (V.d (D.b false))) []])
              Tr.ret)))) :=
  rk_of (by kernel_rfl)
theorem f6 (fa : Bool) (xs : List D) :
    rk Try.prog pol (Task.call 6 [V.d (D.l fa xs)] []) = interp (rk Try.prog pol) (
Tr.call (Task.call 7 [] []) fun (o_0 : Out) =>
  ift o_0.snd.isEmpty
    (asD o_0.fst fun (d_1 : D) =>
      asB d_1 fun (b_2 : Bool) =>
        brB (!b_2) (Tr.ret (V.d (D.b false), []))
          (brB (decide ((↑xs.length : Int) > 20)) (Tr.ret (V.d (D.b true), []))
            (Tr.call (Task.at_ 6 0 [false, true, false, true, true, true, true] (sv 117 [(0, V.d (D.l fa xs)), (3, V.d (D.l true [])), (4, V.d (D.i IntKind.i64 0))]) [(3, 1)] []) Tr.ret)))) :=
  rk_of (by kernel_rfl)
theorem f10_at43 (b_0 : Bool) (l_1 : List D) (b_2 : Bool) (l_3 : List D) (n_4 : Int) :
    rk Try.prog pol (Task.at_ 10 0 [false, true, false, true, true] (sv 26 [(0, V.d (D.l b_0 l_1)), (1, V.d (D.l b_2 l_3)), (5, V.d (D.i IntKind.i64 n_4))]) [] []) = interp (rk Try.prog pol) (
brB (decide (n_4 < (↑l_1.length : Int)))
  (ob (getI l_1 n_4) fun (d_0 : D) =>
    ift (d_0.width == 1)
      (ob l_1[n_4.toNat]? fun (d_1 : D) =>
        ob d_1.cells[0]? fun (d_2 : D) =>
          asI IntKind.i64 d_2 fun (n_3 : Int) =>
            ob (getI l_3 n_4) fun (d_4 : D) =>
              ift (d_4.width == 1)
                (ob l_3[n_4.toNat]? fun (d_5 : D) =>
                  ob d_5.cells[0]? fun (d_6 : D) =>
                    asI IntKind.i64 d_6 fun (n_7 : Int) =>
                      brB (n_3 != n_7) (Tr.ret (V.d (D.b false), []))
                        (Tr.call
                          (Task.at_ 10 0 [false, true, false, true, true] (sv 26 [(0, V.d (D.l b_0 l_1)), (1, V.d (D.l b_2 l_3)), (5, V.d (D.i IntKind.i64 (IntKind.i64.wrap (n_4 + 1))))]) [] [])
                          Tr.ret))))
  (Tr.ret (V.d (D.b true), []))) :=
  rk_of (by kernel_rfl)
theorem f8_at87 (b_0 : Bool) (l_1 : List D) (n_2 : Int) (b_3 : Bool) (l_4 : List D) (n_5 : Int) (n_6 : Int) (l_7 : List (D × D)) (l_8 : List (D × D)) :
    rk Try.prog pol (Task.at_ 8 0 [false, true, false, true, true, true]
  (sv 58 [(2, V.d (D.l b_0 l_1)), (4, V.mp 0), (5, V.mp 1), (6, V.d (D.i IntKind.i64 n_2)), (12, V.d (D.l b_3 l_4)), (13, V.d (D.i IntKind.i64 n_5)), (14, V.d (D.i IntKind.i64 n_6))]) [(2, 1)]
  [Ob.map l_7, Ob.map l_8]) = interp (rk Try.prog pol) (
brB (decide (n_6 < n_5))
  (ob (getI l_4 n_6) fun (d_0 : D) =>
    ift (d_0.width == 11)
      (ob l_4[n_6.toNat]? fun (d_1 : D) =>
        ift (decide (11 ≤ d_1.width))
          (ift
            ([V.d ((List.take 11 (List.drop 0 d_1.cells)).getD 0 (D.b false)), V.d ((List.take 11 (List.drop 0 d_1.cells)).getD 1 (D.b false)),
                  V.d ((List.take 11 (List.drop 0 d_1.cells)).getD 2 (D.b false)), V.d ((List.take 11 (List.drop 0 d_1.cells)).getD 3 (D.b false)),
                  V.d ((List.take 11 (List.drop 0 d_1.cells)).getD 4 (D.b false)), V.d ((List.take 11 (List.drop 0 d_1.cells)).getD 5 (D.b false)),
                  V.d ((List.take 11 (List.drop 0 d_1.cells)).getD 6 (D.b false)), V.d ((List.take 11 (List.drop 0 d_1.cells)).getD 7 (D.b false)),
                  V.d ((List.take 11 (List.drop 0 d_1.cells)).getD 8 (D.b false)), V.d ((List.take 11 (List.drop 0 d_1.cells)).getD 9 (D.b false)),
                  V.d ((List.take 11 (List.drop 0 d_1.cells)).getD 10 (D.b false))].all
              V.one)
            (asB ((List.take 11 (List.drop 0 d_1.cells)).getD 0 (D.b false)) fun (b_2 : Bool) =>
              brB b_2
                (asI IntKind.i64 ((List.take 11 (List.drop 0 d_1.cells)).getD 1 (D.b false)) fun (n_3 : Int) =>
                  brB (decide (n_3 < 1))
                    (Tr.call
                      (Task.at_ 8 0 [true, false, true, false, false, true, true, false, false, true, false, true, true, true]
                        (sv 58
                          [(2, V.d (D.l b_0 l_1)), (4, V.mp 0), (5, V.mp 1), (6, V.d (D.i IntKind.i64 n_2)), (8, V.p 2 0), (12, V.d (D.l b_3 l_4)), (13, V.d (D.i IntKind.i64 n_5)),
                            (14, V.d (D.i IntKind.i64 n_6)), (29, V.d (D.b true))])
                        [(2, 1)]
                        [Ob.cells
                            [V.d ((List.take 11 (List.drop 0 d_1.cells)).getD 0 (D.b false)), V.d ((List.take 11 (List.drop 0 d_1.cells)).getD 1 (D.b false)),
                              V.d ((List.take 11 (List.drop 0 d_1.cells)).getD 2 (D.b false)), V.d ((List.take 11 (List.drop 0 d_1.cells)).getD 3 (D.b false)),
                              V.d ((List.take 11 (List.drop 0 d_1.cells)).getD 4 (D.b false)), V.d ((List.take 11 (List.drop 0 d_1.cells)).getD 5 (D.b false)),
                              V.d ((List.take 11 (List.drop 0 d_1.cells)).getD 6 (D.b false)), V.d ((List.take 11 (List.drop 0 d_1.cells)).getD 7 (D.b false)),
                              V.d ((List.take 11 (List.drop 0 d_1.cells)).getD 8 (D.b false)), V.d ((List.take 11 (List.drop 0 d_1.cells)).getD 9 (D.b false)),
                              V.d ((List.take 11 (List.drop 0 d_1.cells)).getD 10 (D.b false))]
                            [],
                          Ob.map l_7, Ob.map l_8])
                      Tr.ret)
                    (asI IntKind.i64 ((List.take 11 (List.drop 0 d_1.cells)).getD 1 (D.b false)) fun (n_4 : Int) =>
                      Tr.call
                        (Task.at_ 8 0 [true, false, true, false, false, true, true, false, false, true, false, true, true, true]
                          (sv 58
                            [(2, V.d (D.l b_0 l_1)), (4, V.mp 0), (5, V.mp 1), (6, V.d (D.i IntKind.i64 n_2)), (8, V.p 2 0), (12, V.d (D.l b_3 l_4)), (13, V.d (D.i IntKind.i64 n_5)),
                              (14, V.d (D.i IntKind.i64 n_6)), (29, V.d (D.b (decide (n_4 > 32767))))])
                          [(2, 1)]
                          [Ob.cells
                              [V.d ((List.take 11 (List.drop 0 d_1.cells)).getD 0 (D.b false)), V.d ((List.take 11 (List.drop 0 d_1.cells)).getD 1 (D.b false)),
                                V.d ((List.take 11 (List.drop 0 d_1.cells)).getD 2 (D.b false)), V.d ((List.take 11 (List.drop 0 d_1.cells)).getD 3 (D.b false)),
                                V.d ((List.take 11 (List.drop 0 d_1.cells)).getD 4 (D.b false)), V.d ((List.take 11 (List.drop 0 d_1.cells)).getD 5 (D.b false)),
                                V.d ((List.take 11 (List.drop 0 d_1.cells)).getD 6 (D.b false)), V.d ((List.take 11 (List.drop 0 d_1.cells)).getD 7 (D.b false)),
                                V.d ((List.take 11 (List.drop 0 d_1.cells)).getD 8 (D.b false)), V.d ((List.take 11 (List.drop 0 d_1.cells)).getD 9 (D.b false)),
                                V.d ((List.take 11 (List.drop 0 d_1.cells)).getD 10 (D.b false))]
                              [],
                            Ob.map l_7, Ob.map l_8])
                        Tr.ret))
                (Tr.call
                  (Task.at_ 8 0 [true, false, true, false, false, true, true, false, false, true, false, true, true, true]
                    (sv 58
                      [(2, V.d (D.l b_0 l_1)), (4, V.mp 0), (5, V.mp 1), (6, V.d (D.i IntKind.i64 n_2)), (8, V.p 2 0), (12, V.d (D.l b_3 l_4)), (13, V.d (D.i IntKind.i64 n_5)),
                        (14, V.d (D.i IntKind.i64 n_6)), (29, V.d (D.b false))])
                    [(2, 1)]
                    [Ob.cells
                        [V.d ((List.take 11 (List.drop 0 d_1.cells)).getD 0 (D.b false)), V.d ((List.take 11 (List.drop 0 d_1.cells)).getD 1 (D.b false)),
                          V.d ((List.take 11 (List.drop 0 d_1.cells)).getD 2 (D.b false)), V.d ((List.take 11 (List.drop 0 d_1.cells)).getD 3 (D.b false)),
                          V.d ((List.take 11 (List.drop 0 d_1.cells)).getD 4 (D.b false)), V.d ((List.take 11 (List.drop 0 d_1.cells)).getD 5 (D.b false)),
                          V.d ((List.take 11 (List.drop 0 d_1.cells)).getD 6 (D.b false)), V.d ((List.take 11 (List.drop 0 d_1.cells)).getD 7 (D.b false)),
                          V.d ((List.take 11 (List.drop 0 d_1.cells)).getD 8 (D.b false)), V.d ((List.take 11 (List.drop 0 d_1.cells)).getD 9 (D.b false)),
                          V.d ((List.take 11 (List.drop 0 d_1.cells)).getD 10 (D.b false))]
                        [],
                      Ob.map l_7, Ob.map l_8])
                  Tr.ret)))))
  (Tr.ret (V.t [V.d (D.l b_0 l_1), V.d (D.i IntKind.i64 0)], []))) :=
  rk_of (by kernel_rfl)
theorem f9_at87 (b_0 : Bool) (l_1 : List D) (b_2 : Bool) (l_3 : List D) (n_4 : Int) (n_5 : Int) :
    rk Try.prog pol (Task.at_ 9 0 [false, true, false, true, true, true] (sv 73 [(0, V.d (D.l b_0 l_1)), (4, V.d (D.l b_2 l_3)), (5, V.d (D.i IntKind.i64 n_4)), (6, V.d (D.i IntKind.i64 n_5))]) [(4, 1)] []) = interp (rk Try.prog pol) (
brB (decide (n_5 < (↑l_1.length : Int)))
  (ob (getI l_1 n_5) fun (d_0 : D) =>
    ift (d_0.width == 11)
      (ob l_1[n_5.toNat]? fun (d_1 : D) =>
        ob d_1.cells[0]? fun (d_2 : D) =>
          asB d_2 fun (b_3 : Bool) =>
            brB b_3
              (ob (getI l_1 n_5) fun (d_4 : D) =>
                ift (d_4.width == 11)
                  (ob l_1[n_5.toNat]? fun (d_5 : D) =>
                    ob d_5.cells[1]? fun (d_6 : D) =>
                      asI IntKind.i64 d_6 fun (n_7 : Int) =>
                        brB (decide (n_7 < 1))
                          (Tr.call
                            (Task.at_ 9 0 [true, false, true, false, true, false, true, true, false, false, true, false, false, true, false, true, true, true]
                              (sv 73
                                [(0, V.d (D.l b_0 l_1)), (4, V.d (D.l b_2 l_3)), (5, V.d (D.i IntKind.i64 (IntKind.i64.wrap (IntKind.i64.wrap (n_4 - 1) + 1)))), (6, V.d (D.i IntKind.i64 n_5)),
                                  (38, V.d (D.b true))])
                              [(4, 1)] [])
                            Tr.ret)
                          (ob (getI l_1 n_5) fun (d_8 : D) =>
                            ift (d_8.width == 11)
                              (ob l_1[n_5.toNat]? fun (d_9 : D) =>
                                ob d_9.cells[1]? fun (d_10 : D) =>
                                  asI IntKind.i64 d_10 fun (n_11 : Int) =>
                                    Tr.call
                                      (Task.at_ 9 0 [true, false, true, false, true, false, true, true, false, false, true, false, false, true, false, true, true, true]
                                        (sv 73
                                          [(0, V.d (D.l b_0 l_1)), (4, V.d (D.l b_2 l_3)), (5, V.d (D.i IntKind.i64 (IntKind.i64.wrap (IntKind.i64.wrap (n_4 - 1) + 1)))),
                                            (6, V.d (D.i IntKind.i64 n_5)), (38, V.d (D.b (decide (n_11 > 32767))))])
                                        [(4, 1)] [])
                                      Tr.ret))))
              (Tr.call
                (Task.at_ 9 0 [true, true, true, false, false, true, false, false, true, false, true, true, true]
                  (sv 73
                    [(0, V.d (D.l b_0 l_1)), (4, V.d (D.l b_2 l_3)), (5, V.d (D.i IntKind.i64 (IntKind.i64.wrap (n_4 - 1)))), (6, V.d (D.i IntKind.i64 n_5)),
                      (7, V.d (D.i IntKind.i64 (IntKind.i64.wrap (n_4 - 1))))])
                  [(4, 1)] [])
                Tr.ret)))
  (Tr.ret (V.t [V.d (D.l b_2 l_3), V.d (D.i IntKind.i64 0)], []))) :=
  rk_of (by kernel_rfl)
theorem f12_at43 (b_0 : Bool) (l_1 : List D) (b_2 : Bool) (l_3 : List D) (n_4 : Int) :
    rk Try.prog pol (Task.at_ 12 0 [false, true, false, true, true] (sv 45 [(0, V.d (D.l b_0 l_1)), (3, V.d (D.l b_2 l_3)), (4, V.d (D.i IntKind.i64 n_4))]) [(3, 1)] []) = interp (rk Try.prog pol) (
brB (decide (n_4 < (↑l_1.length : Int)))
  (Tr.call
    (Task.at_ 12 0 [false, false, true, false, false, true, false, false, true, false, true, true]
      (sv 45 [(0, V.d (D.l b_0 l_1)), (3, V.d (D.l b_2 l_3)), (4, V.d (D.i IntKind.i64 n_4)), (5, V.d (D.i IntKind.i64 0))]) [(3, 1)] [])
    Tr.ret)
  (Tr.ret (V.d (D.l b_2 l_3), []))) :=
  rk_of (by kernel_rfl)
theorem f3_at27 (b_0 : Bool) (l_1 : List D) (b_2 : Bool) (l_3 : List D) (b_4 : Bool) :
    rk Try.prog pol (Task.at_ 3 0 [true, false, true, true] (sv 44 [(0, V.d (D.l b_0 l_1)), (1, V.d (D.l b_2 l_3)), (18, V.d (D.b b_4))]) [] []) = interp (rk Try.prog pol) (
brB b_4 (Tr.ret (V.d (D.b true), []))
  (Tr.call (Task.call 8 [V.d (D.l b_0 l_1)] []) fun (o_0 : Out) =>
    ift o_0.snd.isEmpty
      (unT o_0.fst fun (l_1_1 : List V) =>
        ift (l_1_1.length == 2)
          (asD (l_1_1.getD 0 (V.d (D.b false))) fun (d_2 : D) =>
            asL d_2 fun (b_3 : Bool) (l_4 : List D) =>
              asD (l_1_1.getD 1 (V.d (D.b false))) fun (d_5 : D) =>
                asI IntKind.i64 d_5 fun (n_6 : Int) =>
                  Tr.call (Task.call 9 [V.d (D.l b_0 l_1)] []) fun (o_7 : Out) =>
                    ift o_7.snd.isEmpty
                      (unT o_7.fst fun (l_8 : List V) =>
                        ift (l_8.length == 2)
                          (asD (l_8.getD 0 (V.d (D.b false))) fun (d_9 : D) =>
                            asL d_9 fun (b_10 : Bool) (l_11 : List D) =>
                              asD (l_8.getD 1 (V.d (D.b false))) fun (d_12 : D) =>
                                asI IntKind.i64 d_12 fun (n_13 : Int) =>
                                  Tr.call (Task.call 10 [V.d (D.l b_3 l_4), V.d (D.l b_10 l_11)] []) fun (o_14 : Out) =>
                                    ift o_14.snd.isEmpty
                                      (asD o_14.fst fun (d_15 : D) =>
                                        asB d_15 fun (b_16 : Bool) =>
                                          brB b_16
                                            (brB (n_6 == n_13)
                                              (Tr.call (Task.call 11 [V.d (D.l b_2 l_3)] []) fun (o_17 : Out) =>
                                                ift o_17.snd.isEmpty
                                                  (asD o_17.fst fun (d_18 : D) =>
                                                    asL d_18 fun (b_19 : Bool) (l_20 : List D) =>
                                                      Tr.call (Task.call 12 [V.d (D.l b_2 l_3)] []) fun (o_21 : Out) =>
                                                        ift o_21.snd.isEmpty
                                                          (asD o_21.fst fun (d_22 : D) =>
                                                            asL d_22 fun (b_23 : Bool) (l_24 : List D) =>
                                                              Tr.call (Task.call 10 [V.d (D.l b_19 l_20), V.d (D.l b_23 l_24)] []) fun (o_25 : Out) =>
                                                                ift o_25.snd.isEmpty (asD o_25.fst fun (d_26 : D) => asB d_26 fun (b_27 : Bool) => Tr.ret (V.d (D.b b_27), [])))))
                                              (Tr.ret (V.d (D.b false), [])))
                                            (Tr.ret (V.d (D.b false), []))))))))) :=
  rk_of (by kernel_rfl)
theorem f4_at703 (b_0 : Bool) (l_1 : List D) (b_2 : Bool) (l_3 : List D) (b_4 : Bool) (n_5 : Int) (l_6 : List V) :
    rk Try.prog pol (Task.at_ 4 0 [false, true, false, true, true, true, true, true, true] (sv 163 [(0, V.d (D.l b_0 l_1)), (3, V.d (D.l b_2 l_3)), (4, V.p 0 0), (5, V.d (D.b b_4)), (6, V.d (D.i IntKind.i64 n_5))])
  [(3, 11)] [Ob.cells l_6 []]) = interp (rk Try.prog pol) (
brB (decide (n_5 < (↑l_1.length : Int)))
  (ob (getI l_1 n_5) fun (d_0 : D) =>
    ift (d_0.width == 1)
      (ob l_1[n_5.toNat]? fun (d_1 : D) =>
        ob d_1.cells[0]? fun (d_2 : D) =>
          asI IntKind.u16 d_2 fun (n_3 : Int) =>
            brB (decide (n_3.tmod 3 > 0))
              (ob (getI l_1 n_5) fun (d_4 : D) =>
                ift (d_4.width == 1)
                  (ob l_1[n_5.toNat]? fun (d_5 : D) =>
                    ob d_5.cells[0]? fun (d_6 : D) =>
                      asI IntKind.u16 d_6 fun (n_7 : Int) =>
                        brB b_4
                          (Tr.call
                            (Task.at_ 4 0 [true, true, false, true, false, true, false, false, true, false, false, true, false, true, true, true, true, true, true]
                              (sv 163 [(0, V.d (D.l b_0 l_1)), (3, V.d (D.l b_2 l_3)), (4, V.p 0 0), (5, V.d (D.b true)), (6, V.d (D.i IntKind.i64 n_5)), (7, V.p 1 0)]) [(3, 11)]
                              [Ob.cells
                                  [V.d (D.b true), V.d (D.i IntKind.i64 (IntKind.i64.wrap (IntKind.u16.wrap (1 + n_7.tmod 299)))), V.d (D.i IntKind.i64 0), V.d (D.s []),
                                    V.d (D.s [UInt8.ofNat (IntKind.u8.wrap (IntKind.i64.wrap (97 + n_5))).toNat]), V.d (D.b false), V.d (D.i IntKind.i64 0), V.d (D.i IntKind.i64 0),
                                    V.d (D.i IntKind.u64 0), V.d (D.s []), V.d (D.l true [])]
                                  [],
                                Ob.cells l_6 []])
                            Tr.ret)
                          (ift (decide (0 ≤ IntKind.i64.wrap (IntKind.u16.wrap (1 + n_7.tmod 299)) ∧ IntKind.i64.wrap (IntKind.u16.wrap (1 + n_7.tmod 299)) < 300))
                            (ob l_6[0 + (IntKind.i64.wrap (IntKind.u16.wrap (1 + n_7.tmod 299))).toNat * 1]? fun (v_8 : V) =>
                              asD v_8 fun (d_9 : D) =>
                                asB d_9 fun (b_10 : Bool) =>
                                  Tr.call
                                    (Task.at_ 4 0 [true, true, false, true, false, true, false, false, true, false, false, true, false, true, true, true, true, true, true]
                                      (sv 163 [(0, V.d (D.l b_0 l_1)), (3, V.d (D.l b_2 l_3)), (4, V.p 0 0), (5, V.d (D.b b_10)), (6, V.d (D.i IntKind.i64 n_5)), (7, V.p 1 0)]) [(3, 11)]
                                      [Ob.cells
                                          [V.d (D.b true), V.d (D.i IntKind.i64 (IntKind.i64.wrap (IntKind.u16.wrap (1 + n_7.tmod 299)))), V.d (D.i IntKind.i64 0), V.d (D.s []),
                                            V.d (D.s [UInt8.ofNat (IntKind.u8.wrap (IntKind.i64.wrap (97 + n_5))).toNat]), V.d (D.b false), V.d (D.i IntKind.i64 0), V.d (D.i IntKind.i64 0),
                                            V.d (D.i IntKind.u64 0), V.d (D.s []), V.d (D.l true [])]
                                          [],
                                        Ob.cells l_6 []])
                                    Tr.ret))))
              (Tr.call
                (Task.at_ 4 0 [true, true, false, false, true, false, false, true, false, true, true, true, true, true, true]
                  (sv 163 [(0, V.d (D.l b_0 l_1)), (3, V.d (D.l b_2 l_3)), (4, V.p 0 0), (5, V.d (D.b b_4)), (6, V.d (D.i IntKind.i64 n_5)), (7, V.p 1 0)]) [(3, 11)]
                  [Ob.cells
                      [V.d (D.b false), V.d (D.i IntKind.i64 0), V.d (D.i IntKind.i64 0), V.d (D.s []), V.d (D.s [UInt8.ofNat (IntKind.u8.wrap (IntKind.i64.wrap (97 + n_5))).toNat]), V.d (D.b false),
                        V.d (D.i IntKind.i64 0), V.d (D.i IntKind.i64 0), V.d (D.i IntKind.u64 0), V.d (D.s []), V.d (D.l true [])]
                      [],
                    Ob.cells l_6 []])
                Tr.ret)))
  (Tr.call (Task.call 8 [V.d (D.l b_2 l_3)] []) fun (o_11 : Out) =>
    ift o_11.snd.isEmpty
      (unT o_11.fst fun (l_12 : List V) =>
        ift (l_12.length == 2)
          (asD (l_12.getD 0 (V.d (D.b false))) fun (d_13 : D) =>
            asL d_13 fun (b_14 : Bool) (l_15 : List D) =>
              asD (l_12.getD 1 (V.d (D.b false))) fun (d_16 : D) =>
                asI IntKind.i64 d_16 fun (n_17 : Int) =>
                  brB b_4 (brB (n_17 == 8) (Tr.ret (V.d (D.b ((↑l_15.length : Int) == 0)), [])) (Tr.ret (V.d (D.b false), [])))
                    (brB (n_17 != 0)
                      (Tr.call
                        (Task.at_ 4 0 [true, false, true, true, true, true, true, true, true, true, true] (sv 163 [(0, V.d (D.l b_0 l_1)), (8, V.d (D.l b_14 l_15)), (81, V.d (D.b true))]) [] [])
                        Tr.ret)
                      (Tr.call
                        (Task.at_ 4 0 [true, false, true, true, true, true, true, true, true, true, true]
                          (sv 163 [(0, V.d (D.l b_0 l_1)), (8, V.d (D.l b_14 l_15)), (81, V.d (D.b ((↑l_15.length : Int) != (↑l_1.length : Int))))]) [] [])
                        Tr.ret)))))) :=
  rk_of (by kernel_rfl)
theorem f6_at175 (b_0 : Bool) (l_1 : List D) (b_2 : Bool) (l_3 : List D) (n_4 : Int) :
    rk Try.prog pol (Task.at_ 6 0 [false, true, false, true, true, true, true] (sv 117 [(0, V.d (D.l b_0 l_1)), (3, V.d (D.l b_2 l_3)), (4, V.d (D.i IntKind.i64 n_4))]) [(3, 1)] []) = interp (rk Try.prog pol) (
brB (decide (n_4 < (↑l_1.length : Int)))
  (ob (getI l_1 n_4) fun (d_0 : D) =>
    ift (d_0.width == 1)
      (ob l_1[n_4.toNat]? fun (d_1 : D) =>
        ob d_1.cells[0]? fun (d_2 : D) =>
          asI IntKind.i8 d_2 fun (n_3 : Int) =>
            ift (headOk 1 l_3)
              (ift (b_2 || true)
                (ift (decide (l_3.length + 1 ≤ 4294967296))
                  (Tr.call
                    (Task.at_ 6 0 [false, true, false, true, true, true, true]
                      (sv 117 [(0, V.d (D.l b_0 l_1)), (3, V.d (D.l (b_2 && false) (l_3 ++ [D.i IntKind.i64 (IntKind.i64.wrap n_3)]))), (4, V.d (D.i IntKind.i64 (IntKind.i64.wrap (n_4 + 1))))])
                      [(3, 1)] [])
                    Tr.ret)))))
  (Tr.call (Task.call 11 [V.d (D.l b_2 l_3)] []) fun (o_4 : Out) =>
    ift o_4.snd.isEmpty
      (asD o_4.fst fun (d_5 : D) =>
        asL d_5 fun (b_6 : Bool) (l_7 : List D) =>
          brB ((↑l_7.length : Int) != (↑l_3.length : Int)) (Tr.ret (V.d (D.b false), []))
            (Tr.call
              (Task.at_ 6 0 [false, true, false, true, true, true, true, true, true, true, true] (sv 117 [(3, V.d (D.l b_2 l_3)), (5, V.d (D.l b_6 l_7)), (6, V.p 0 0), (7, V.d (D.i IntKind.i64 0))])
                [(3, 1)] [Ob.cells (List.replicate 20 (V.d (D.b false))) []])
              Tr.ret)))) :=
  rk_of (by kernel_rfl)
theorem f8_at27031 (b_0 : Bool) (l_1 : List D) (n_2 : Int) (b_3 : Bool) (l_4 : List D) (n_5 : Int) (n_6 : Int) (b_7 : Bool) (d_8 : D) (d_9 : D) (d_10 : D) (d_11 : D) (d_12 : D) (d_13 : D) (d_14 : D) (d_15 : D) (d_16 : D) (d_17 : D) (d_18 : D) (l_19 : List (D × D)) (l_20 : List (D × D)) :
    rk Try.prog pol (Task.at_ 8 0 [true, false, true, false, false, true, true, false, false, true, false, true, true, true]
  (sv 58
    [(2, V.d (D.l b_0 l_1)), (4, V.mp 0), (5, V.mp 1), (6, V.d (D.i IntKind.i64 n_2)), (8, V.p 2 0), (12, V.d (D.l b_3 l_4)), (13, V.d (D.i IntKind.i64 n_5)), (14, V.d (D.i IntKind.i64 n_6)),
      (29, V.d (D.b b_7))])
  [(2, 1)] [Ob.cells [V.d d_8, V.d d_9, V.d d_10, V.d d_11, V.d d_12, V.d d_13, V.d d_14, V.d d_15, V.d d_16, V.d d_17, V.d d_18] [], Ob.map l_19, Ob.map l_20]) = interp (rk Try.prog pol) (
brB b_7 (Tr.ret (V.t [V.d (D.l true []), V.d (D.i IntKind.i64 5)], []))
  (asI IntKind.i64 d_9 fun (n_0 : Int) =>
    asB d_8 fun (b_1 : Bool) =>
      brB (!b_1)
        (Tr.call
          (Task.at_ 8 0 [true, true, true, true, false, false, true, true, false, false, true, false, true, true, true]
            (sv 58
              [(2, V.d (D.l b_0 l_1)), (4, V.mp 0), (5, V.mp 1), (6, V.d (D.i IntKind.i64 (IntKind.i64.wrap (n_2 - 1)))), (8, V.p 2 0), (9, V.d (D.i IntKind.i64 (IntKind.i64.wrap (n_2 - 1)))),
                (12, V.d (D.l b_3 l_4)), (13, V.d (D.i IntKind.i64 n_5)), (14, V.d (D.i IntKind.i64 n_6))])
            [(2, 1)] [Ob.cells [V.d d_8, V.d d_9, V.d d_10, V.d d_11, V.d d_12, V.d d_13, V.d d_14, V.d d_15, V.d d_16, V.d d_17, V.d d_18] [], Ob.map l_19, Ob.map l_20])
          Tr.ret)
        (Tr.call
          (Task.at_ 8 0 [true, true, true, true, false, false, true, true, false, false, true, false, true, true, true]
            (sv 58
              [(2, V.d (D.l b_0 l_1)), (4, V.mp 0), (5, V.mp 1), (6, V.d (D.i IntKind.i64 n_2)), (8, V.p 2 0), (9, V.d (D.i IntKind.i64 n_0)), (12, V.d (D.l b_3 l_4)), (13, V.d (D.i IntKind.i64 n_5)),
                (14, V.d (D.i IntKind.i64 n_6))])
            [(2, 1)] [Ob.cells [V.d d_8, V.d d_9, V.d d_10, V.d d_11, V.d d_12, V.d d_13, V.d d_14, V.d d_15, V.d d_16, V.d d_17, V.d d_18] [], Ob.map l_19, Ob.map l_20])
          Tr.ret))) :=
  rk_of (by kernel_rfl)
theorem f9_at437399 (b_0 : Bool) (l_1 : List D) (b_2 : Bool) (l_3 : List D) (n_4 : Int) (n_5 : Int) (b_6 : Bool) :
    rk Try.prog pol (Task.at_ 9 0 [true, false, true, false, true, false, true, true, false, false, true, false, false, true, false, true, true, true]
  (sv 73 [(0, V.d (D.l b_0 l_1)), (4, V.d (D.l b_2 l_3)), (5, V.d (D.i IntKind.i64 n_4)), (6, V.d (D.i IntKind.i64 n_5)), (38, V.d (D.b b_6))]) [(4, 1)] []) = interp (rk Try.prog pol) (
brB b_6 (Tr.ret (V.t [V.d (D.l true []), V.d (D.i IntKind.i64 5)], []))
  (ob (getI l_1 n_5) fun (d_0 : D) =>
    ift (d_0.width == 11)
      (ob l_1[n_5.toNat]? fun (d_1 : D) =>
        ob d_1.cells[1]? fun (d_2 : D) =>
          asI IntKind.i64 d_2 fun (n_3 : Int) =>
            Tr.call
              (Task.at_ 9 0 [true, true, true, false, false, true, false, false, true, false, true, true, true]
                (sv 73 [(0, V.d (D.l b_0 l_1)), (4, V.d (D.l b_2 l_3)), (5, V.d (D.i IntKind.i64 n_4)), (6, V.d (D.i IntKind.i64 n_5)), (7, V.d (D.i IntKind.i64 n_3))]) [(4, 1)] [])
              Tr.ret))) :=
  rk_of (by kernel_rfl)
theorem f9_at15511 (b_0 : Bool) (l_1 : List D) (b_2 : Bool) (l_3 : List D) (n_4 : Int) (n_5 : Int) (n_6 : Int) :
    rk Try.prog pol (Task.at_ 9 0 [true, true, true, false, false, true, false, false, true, false, true, true, true]
  (sv 73 [(0, V.d (D.l b_0 l_1)), (4, V.d (D.l b_2 l_3)), (5, V.d (D.i IntKind.i64 n_4)), (6, V.d (D.i IntKind.i64 n_5)), (7, V.d (D.i IntKind.i64 n_6))]) [(4, 1)] []) = interp (rk Try.prog pol) (
Tr.call
  (Task.at_ 9 0 [false, true, false, true, true, true, false, false, true, false, false, true, false, true, true, true]
    (sv 73 [(0, V.d (D.l b_0 l_1)), (4, V.d (D.l b_2 l_3)), (5, V.d (D.i IntKind.i64 n_4)), (6, V.d (D.i IntKind.i64 n_5)), (7, V.d (D.i IntKind.i64 n_6)), (8, V.d (D.i IntKind.i64 0))]) [(4, 1)] [])
  Tr.ret) :=
  rk_of (by kernel_rfl)
theorem f12_at4683 (b_0 : Bool) (l_1 : List D) (b_2 : Bool) (l_3 : List D) (n_4 : Int) (n_5 : Int) :
    rk Try.prog pol (Task.at_ 12 0 [false, false, true, false, false, true, false, false, true, false, true, true]
  (sv 45 [(0, V.d (D.l b_0 l_1)), (3, V.d (D.l b_2 l_3)), (4, V.d (D.i IntKind.i64 n_4)), (5, V.d (D.i IntKind.i64 n_5))]) [(3, 1)] []) = interp (rk Try.prog pol) (
brB (decide (n_5 < (↑l_3.length : Int)))
  (ob (getI l_3 n_5) fun (d_0 : D) =>
    ift (d_0.width == 1)
      (ob l_3[n_5.toNat]? fun (d_1 : D) =>
        ob d_1.cells[0]? fun (d_2 : D) =>
          asI IntKind.i64 d_2 fun (n_3 : Int) =>
            ob (getI l_1 n_3) fun (d_4 : D) =>
              ift (d_4.width == 1)
                (ob l_1[n_3.toNat]? fun (d_5 : D) =>
                  ob d_5.cells[0]? fun (d_6 : D) =>
                    asI IntKind.i64 d_6 fun (n_7 : Int) =>
                      ob (getI l_1 n_4) fun (d_8 : D) =>
                        ift (d_8.width == 1)
                          (ob l_1[n_4.toNat]? fun (d_9 : D) =>
                            ob d_9.cells[0]? fun (d_10 : D) =>
                              asI IntKind.i64 d_10 fun (n_11 : Int) =>
                                Tr.call
                                  (Task.at_ 12 0 [true, false, false, false, false, true, false, false, true, false, false, true, false, true, true]
                                    (sv 45 [(0, V.d (D.l b_0 l_1)), (3, V.d (D.l b_2 l_3)), (4, V.d (D.i IntKind.i64 n_4)), (5, V.d (D.i IntKind.i64 n_5)), (29, V.d (D.b (decide (n_7 ≤ n_11))))])
                                    [(3, 1)] [])
                                  Tr.ret))))
  (Tr.call
    (Task.at_ 12 0 [true, false, false, false, false, true, false, false, true, false, false, true, false, true, true]
      (sv 45 [(0, V.d (D.l b_0 l_1)), (3, V.d (D.l b_2 l_3)), (4, V.d (D.i IntKind.i64 n_4)), (5, V.d (D.i IntKind.i64 n_5)), (29, V.d (D.b false))]) [(3, 1)] [])
    Tr.ret)) :=
  rk_of (by kernel_rfl)
theorem f4_at959679 (b_0 : Bool) (l_1 : List D) (b_2 : Bool) (l_3 : List D) (b_4 : Bool) (n_5 : Int) (b_6 : Bool) (n_7 : Int) (n_8 : Int) (l_9 : List UInt8) (l_10 : List UInt8) (b_11 : Bool) (n_12 : Int) (n_13 : Int) (n_14 : Int) (l_15 : List UInt8) (b_16 : Bool) (l_17 : List D) (l_18 : List V) :
    rk Try.prog pol (Task.at_ 4 0 [true, true, false, true, false, true, false, false, true, false, false, true, false, true, true, true, true, true, true]
  (sv 163 [(0, V.d (D.l b_0 l_1)), (3, V.d (D.l b_2 l_3)), (4, V.p 0 0), (5, V.d (D.b b_4)), (6, V.d (D.i IntKind.i64 n_5)), (7, V.p 1 0)]) [(3, 11)]
  [Ob.cells
      [V.d (D.b b_6), V.d (D.i IntKind.i64 n_7), V.d (D.i IntKind.i64 n_8), V.d (D.s l_9), V.d (D.s l_10), V.d (D.b b_11), V.d (D.i IntKind.i64 n_12), V.d (D.i IntKind.i64 n_13),
        V.d (D.i IntKind.u64 n_14), V.d (D.s l_15), V.d (D.l b_16 l_17)]
      [],
    Ob.cells l_18 []]) = interp (rk Try.prog pol) (
ift (decide (0 ≤ n_7 ∧ n_7 < 300))
  (ift (decide (0 + n_7.toNat * 1 < l_18.length) && true)
    (Tr.call
      (Task.at_ 4 0 [true, true, false, false, true, false, false, true, false, true, true, true, true, true, true]
        (sv 163 [(0, V.d (D.l b_0 l_1)), (3, V.d (D.l b_2 l_3)), (4, V.p 0 0), (5, V.d (D.b b_4)), (6, V.d (D.i IntKind.i64 n_5)), (7, V.p 1 0)]) [(3, 11)]
        [Ob.cells
            [V.d (D.b b_6), V.d (D.i IntKind.i64 n_7), V.d (D.i IntKind.i64 n_8), V.d (D.s l_9), V.d (D.s l_10), V.d (D.b b_11), V.d (D.i IntKind.i64 n_12), V.d (D.i IntKind.i64 n_13),
              V.d (D.i IntKind.u64 n_14), V.d (D.s l_15), V.d (D.l b_16 l_17)]
            [],
          Ob.cells (l_18.set (0 + n_7.toNat * 1) (V.d (D.b true))) []])
      Tr.ret))) :=
  rk_of (by kernel_rfl)
theorem f4_at58559 (b_0 : Bool) (l_1 : List D) (b_2 : Bool) (l_3 : List D) (b_4 : Bool) (n_5 : Int) (b_6 : Bool) (n_7 : Int) (n_8 : Int) (l_9 : List UInt8) (l_10 : List UInt8) (b_11 : Bool) (n_12 : Int) (n_13 : Int) (n_14 : Int) (l_15 : List UInt8) (b_16 : Bool) (l_17 : List D) (l_18 : List V) :
    rk Try.prog pol (Task.at_ 4 0 [true, true, false, false, true, false, false, true, false, true, true, true, true, true, true]
  (sv 163 [(0, V.d (D.l b_0 l_1)), (3, V.d (D.l b_2 l_3)), (4, V.p 0 0), (5, V.d (D.b b_4)), (6, V.d (D.i IntKind.i64 n_5)), (7, V.p 1 0)]) [(3, 11)]
  [Ob.cells
      [V.d (D.b b_6), V.d (D.i IntKind.i64 n_7), V.d (D.i IntKind.i64 n_8), V.d (D.s l_9), V.d (D.s l_10), V.d (D.b b_11), V.d (D.i IntKind.i64 n_12), V.d (D.i IntKind.i64 n_13),
        V.d (D.i IntKind.u64 n_14), V.d (D.s l_15), V.d (D.l b_16 l_17)]
      [],
    Ob.cells l_18 []]) = interp (rk Try.prog pol) (
ift (headOk 11 l_3)
  (ift (b_2 || true)
    (ift (decide (l_3.length + 1 ≤ 4294967296))
      (Tr.call
        (Task.at_ 4 0 [false, true, false, true, true, true, true, true, true]
          (sv 163
            [(0, V.d (D.l b_0 l_1)),
              (3,
                V.d
                  (D.l (b_2 && false)
                    (l_3 ++
                      [D.g
                          [D.b b_6, D.i IntKind.i64 n_7, D.i IntKind.i64 n_8, D.s l_9, D.s l_10, D.b b_11, D.i IntKind.i64 n_12, D.i IntKind.i64 n_13, D.i IntKind.u64 n_14, D.s l_15,
                            D.l b_16 l_17]]))),
              (4, V.p 0 0), (5, V.d (D.b b_4)), (6, V.d (D.i IntKind.i64 (IntKind.i64.wrap (n_5 + 1))))])
          [(3, 11)] [Ob.cells l_18 []])
        Tr.ret)))) :=
  rk_of (by kernel_rfl)
theorem f4_at3583 (b_0 : Bool) (l_1 : List D) (b_2 : Bool) (l_3 : List D) (b_4 : Bool) :
    rk Try.prog pol (Task.at_ 4 0 [true, false, true, true, true, true, true, true, true, true, true] (sv 163 [(0, V.d (D.l b_0 l_1)), (8, V.d (D.l b_2 l_3)), (81, V.d (D.b b_4))]) [] []) = interp (rk Try.prog pol) (
brB b_4 (Tr.ret (V.d (D.b false), []))
  (Tr.call
    (Task.at_ 4 0 [false, true, false, true, true, true, true, true, true, true, true, true, true, true]
      (sv 163 [(0, V.d (D.l b_0 l_1)), (8, V.d (D.l b_2 l_3)), (10, V.d (D.i IntKind.i64 0)), (11, V.d (D.i IntKind.i64 0))]) [] [])
    Tr.ret)) :=
  rk_of (by kernel_rfl)
theorem f6_at2815 (b_0 : Bool) (l_1 : List D) (b_2 : Bool) (l_3 : List D) (n_4 : Int) (l_5 : List V) :
    rk Try.prog pol (Task.at_ 6 0 [false, true, false, true, true, true, true, true, true, true, true] (sv 117 [(3, V.d (D.l b_0 l_1)), (5, V.d (D.l b_2 l_3)), (6, V.p 0 0), (7, V.d (D.i IntKind.i64 n_4))]) [(3, 1)]
  [Ob.cells l_5 []]) = interp (rk Try.prog pol) (
brB (decide (n_4 < (↑l_3.length : Int)))
  (ob (getI l_3 n_4) fun (d_0 : D) =>
    ift (d_0.width == 1)
      (ob l_3[n_4.toNat]? fun (d_1 : D) =>
        ob d_1.cells[0]? fun (d_2 : D) =>
          asI IntKind.i64 d_2 fun (n_3 : Int) =>
            brB (decide (n_3 < 0))
              (Tr.call
                (Task.at_ 6 0 [true, false, false, false, true, false, false, true, false, true, true, true, true, true, true, true, true]
                  (sv 117 [(3, V.d (D.l b_0 l_1)), (5, V.d (D.l b_2 l_3)), (6, V.p 0 0), (7, V.d (D.i IntKind.i64 n_4)), (61, V.d (D.b true))]) [(3, 1)] [Ob.cells l_5 []])
                Tr.ret)
              (ob (getI l_3 n_4) fun (d_4 : D) =>
                ift (d_4.width == 1)
                  (ob l_3[n_4.toNat]? fun (d_5 : D) =>
                    ob d_5.cells[0]? fun (d_6 : D) =>
                      asI IntKind.i64 d_6 fun (n_7 : Int) =>
                        brB (decide (n_7 ≥ (↑l_1.length : Int)))
                          (Tr.call
                            (Task.at_ 6 0 [true, false, false, false, true, false, false, true, false, true, true, true, true, true, true, true, true]
                              (sv 117 [(3, V.d (D.l b_0 l_1)), (5, V.d (D.l b_2 l_3)), (6, V.p 0 0), (7, V.d (D.i IntKind.i64 n_4)), (61, V.d (D.b true))]) [(3, 1)] [Ob.cells l_5 []])
                            Tr.ret)
                          (ob (getI l_3 n_4) fun (d_8 : D) =>
                            ift (d_8.width == 1)
                              (ob l_3[n_4.toNat]? fun (d_9 : D) =>
                                ob d_9.cells[0]? fun (d_10 : D) =>
                                  asI IntKind.i64 d_10 fun (n_11 : Int) =>
                                    ift (decide (0 ≤ n_11 ∧ n_11 < 20))
                                      (ob l_5[0 + n_11.toNat * 1]? fun (v_12 : V) =>
                                        asD v_12 fun (d_13 : D) =>
                                          asB d_13 fun (b_14 : Bool) =>
                                            Tr.call
                                              (Task.at_ 6 0 [true, false, false, false, true, false, false, true, false, true, true, true, true, true, true, true, true]
                                                (sv 117 [(3, V.d (D.l b_0 l_1)), (5, V.d (D.l b_2 l_3)), (6, V.p 0 0), (7, V.d (D.i IntKind.i64 n_4)), (61, V.d (D.b b_14))]) [(3, 1)]
                                                [Ob.cells l_5 []])
                                              Tr.ret)))))))
  (Tr.ret (V.d (D.b true), []))) :=
  rk_of (by kernel_rfl)
theorem f8_at63895 (b_0 : Bool) (l_1 : List D) (n_2 : Int) (n_3 : Int) (b_4 : Bool) (l_5 : List D) (n_6 : Int) (n_7 : Int) (d_8 : D) (d_9 : D) (d_10 : D) (d_11 : D) (d_12 : D) (d_13 : D) (d_14 : D) (d_15 : D) (d_16 : D) (d_17 : D) (d_18 : D) (l_19 : List (D × D)) (l_20 : List (D × D)) :
    rk Try.prog pol (Task.at_ 8 0 [true, true, true, true, false, false, true, true, false, false, true, false, true, true, true]
  (sv 58
    [(2, V.d (D.l b_0 l_1)), (4, V.mp 0), (5, V.mp 1), (6, V.d (D.i IntKind.i64 n_2)), (8, V.p 2 0), (9, V.d (D.i IntKind.i64 n_3)), (12, V.d (D.l b_4 l_5)), (13, V.d (D.i IntKind.i64 n_6)),
      (14, V.d (D.i IntKind.i64 n_7))])
  [(2, 1)] [Ob.cells [V.d d_8, V.d d_9, V.d d_10, V.d d_11, V.d d_12, V.d d_13, V.d d_14, V.d d_15, V.d d_16, V.d d_17, V.d d_18] [], Ob.map l_19, Ob.map l_20]) = interp (rk Try.prog pol) (
ob (mfind (D.i IntKind.i64 n_3) l_20) fun (r_0 : Option D) =>
  asB (r_0.getD (D.b false)) fun (b_1 : Bool) =>
    brB b_1
      (Tr.call
        (Task.at_ 8 0 [true, false, true, true, true, true, false, false, true, true, false, false, true, false, true, true, true]
          (sv 58
            [(2, V.d (D.l b_0 l_1)), (4, V.mp 0), (5, V.mp 1), (6, V.d (D.i IntKind.i64 n_2)), (8, V.p 2 0), (9, V.d (D.i IntKind.i64 n_3)), (12, V.d (D.l b_4 l_5)), (13, V.d (D.i IntKind.i64 n_6)),
              (14, V.d (D.i IntKind.i64 n_7)), (46, V.d (D.b true))])
          [(2, 1)] [Ob.cells [V.d d_8, V.d d_9, V.d d_10, V.d d_11, V.d d_12, V.d d_13, V.d d_14, V.d d_15, V.d d_16, V.d d_17, V.d d_18] [], Ob.map l_19, Ob.map l_20])
        Tr.ret)
      (asS d_12 fun (l_2 : List UInt8) =>
        ob (mfind (D.s l_2) l_19) fun (r_3 : Option D) =>
          asB (r_3.getD (D.b false)) fun (b_4_1 : Bool) =>
            Tr.call
              (Task.at_ 8 0 [true, false, true, true, true, true, false, false, true, true, false, false, true, false, true, true, true]
                (sv 58
                  [(2, V.d (D.l b_0 l_1)), (4, V.mp 0), (5, V.mp 1), (6, V.d (D.i IntKind.i64 n_2)), (8, V.p 2 0), (9, V.d (D.i IntKind.i64 n_3)), (12, V.d (D.l b_4 l_5)),
                    (13, V.d (D.i IntKind.i64 n_6)), (14, V.d (D.i IntKind.i64 n_7)), (46, V.d (D.b b_4_1))])
                [(2, 1)] [Ob.cells [V.d d_8, V.d d_9, V.d d_10, V.d d_11, V.d d_12, V.d d_13, V.d d_14, V.d d_15, V.d d_16, V.d d_17, V.d d_18] [], Ob.map l_19, Ob.map l_20])
              Tr.ret)) :=
  rk_of (by kernel_rfl)
theorem f9_at89239 (b_0 : Bool) (l_1 : List D) (b_2 : Bool) (l_3 : List D) (n_4 : Int) (n_5 : Int) (n_6 : Int) (n_7 : Int) :
    rk Try.prog pol (Task.at_ 9 0 [false, true, false, true, true, true, false, false, true, false, false, true, false, true, true, true]
  (sv 73 [(0, V.d (D.l b_0 l_1)), (4, V.d (D.l b_2 l_3)), (5, V.d (D.i IntKind.i64 n_4)), (6, V.d (D.i IntKind.i64 n_5)), (7, V.d (D.i IntKind.i64 n_6)), (8, V.d (D.i IntKind.i64 n_7))]) [(4, 1)] []) = interp (rk Try.prog pol) (
brB (decide (n_7 < n_5))
  (ob (getI l_3 n_7) fun (d_0 : D) =>
    ift (d_0.width == 1)
      (ob l_3[n_7.toNat]? fun (d_1 : D) =>
        ob d_1.cells[0]? fun (d_2 : D) =>
          asI IntKind.i64 d_2 fun (n_3 : Int) =>
            brB (n_3 == n_6)
              (Tr.call
                (Task.at_ 9 0 [true, false, false, true, false, false, true, false, true, true, true, false, false, true, false, false, true, false, true, true, true]
                  (sv 73
                    [(0, V.d (D.l b_0 l_1)), (4, V.d (D.l b_2 l_3)), (5, V.d (D.i IntKind.i64 n_4)), (6, V.d (D.i IntKind.i64 n_5)), (7, V.d (D.i IntKind.i64 n_6)), (8, V.d (D.i IntKind.i64 n_7)),
                      (67, V.d (D.b true))])
                  [(4, 1)] [])
                Tr.ret)
              (ob (getI l_1 n_7) fun (d_4 : D) =>
                ift (d_4.width == 11)
                  (ob l_1[n_7.toNat]? fun (d_5 : D) =>
                    ob d_5.cells[4]? fun (d_6 : D) =>
                      asS d_6 fun (l_7 : List UInt8) =>
                        ob (getI l_1 n_5) fun (d_8 : D) =>
                          ift (d_8.width == 11)
                            (ob l_1[n_5.toNat]? fun (d_9 : D) =>
                              ob d_9.cells[4]? fun (d_10 : D) =>
                                asS d_10 fun (l_11 : List UInt8) =>
                                  Tr.call
                                    (Task.at_ 9 0 [true, false, false, true, false, false, true, false, true, true, true, false, false, true, false, false, true, false, true, true, true]
                                      (sv 73
                                        [(0, V.d (D.l b_0 l_1)), (4, V.d (D.l b_2 l_3)), (5, V.d (D.i IntKind.i64 n_4)), (6, V.d (D.i IntKind.i64 n_5)), (7, V.d (D.i IntKind.i64 n_6)),
                                          (8, V.d (D.i IntKind.i64 n_7)), (67, V.d (D.b (l_7 == l_11)))])
                                      [(4, 1)] [])
                                    Tr.ret)))))
  (ift (headOk 1 l_3)
    (ift (b_2 || true)
      (ift (decide (l_3.length + 1 ≤ 4294967296))
        (Tr.call
          (Task.at_ 9 0 [false, true, false, true, true, true]
            (sv 73 [(0, V.d (D.l b_0 l_1)), (4, V.d (D.l (b_2 && false) (l_3 ++ [D.i IntKind.i64 n_6]))), (5, V.d (D.i IntKind.i64 n_4)), (6, V.d (D.i IntKind.i64 (IntKind.i64.wrap (n_5 + 1))))])
            [(4, 1)] [])
          Tr.ret))))) :=
  rk_of (by kernel_rfl)
theorem f12_at49739 (b_0 : Bool) (l_1 : List D) (b_2 : Bool) (l_3 : List D) (n_4 : Int) (n_5 : Int) (b_6 : Bool) :
    rk Try.prog pol (Task.at_ 12 0 [true, false, false, false, false, true, false, false, true, false, false, true, false, true, true]
  (sv 45 [(0, V.d (D.l b_0 l_1)), (3, V.d (D.l b_2 l_3)), (4, V.d (D.i IntKind.i64 n_4)), (5, V.d (D.i IntKind.i64 n_5)), (29, V.d (D.b b_6))]) [(3, 1)] []) = interp (rk Try.prog pol) (
brB b_6
  (Tr.call
    (Task.at_ 12 0 [false, false, true, false, false, true, false, false, true, false, true, true]
      (sv 45 [(0, V.d (D.l b_0 l_1)), (3, V.d (D.l b_2 l_3)), (4, V.d (D.i IntKind.i64 n_4)), (5, V.d (D.i IntKind.i64 (IntKind.i64.wrap (n_5 + 1))))]) [(3, 1)] [])
    Tr.ret)
  (ift (decide (0 ≤ n_5 ∧ n_5 ≤ (↑l_3.length : Int)))
    (ift (headOk 1 l_3)
      (ift (headOk 1 (List.take (n_5.toNat - 0) (List.drop 0 l_3)))
        (ift (decide (0 + (List.take (n_5.toNat - 0) (List.drop 0 l_3)).length ≤ 4294967296))
          (ift (headOk 1 ([] ++ List.take (n_5.toNat - 0) (List.drop 0 l_3)))
            (ift ((List.take (n_5.toNat - 0) (List.drop 0 l_3)).isEmpty || true)
              (ift (decide (([] ++ List.take (n_5.toNat - 0) (List.drop 0 l_3)).length + 1 ≤ 4294967296))
                (ift (decide (0 ≤ n_5 ∧ n_5 ≤ (↑l_3.length : Int)))
                  (ift (headOk 1 l_3)
                    (ift (headOk 1 ([] ++ List.take (n_5.toNat - 0) (List.drop 0 l_3) ++ [D.i IntKind.i64 n_4]))
                      (ift (headOk 1 (List.take (l_3.length - n_5.toNat) (List.drop n_5.toNat l_3)))
                        (ift ((List.take (n_5.toNat - 0) (List.drop 0 l_3)).isEmpty && false || oneAll (List.take (l_3.length - n_5.toNat) (List.drop n_5.toNat l_3)))
                          (ift
                            (decide
                              (([] ++ List.take (n_5.toNat - 0) (List.drop 0 l_3) ++ [D.i IntKind.i64 n_4]).length + (List.take (l_3.length - n_5.toNat) (List.drop n_5.toNat l_3)).length ≤
                                4294967296))
                            (Tr.call
                              (Task.at_ 12 0 [false, true, false, true, true]
                                (sv 45
                                  [(0, V.d (D.l b_0 l_1)),
                                    (3,
                                      V.d
                                        (D.l ((List.take (n_5.toNat - 0) (List.drop 0 l_3)).isEmpty && false && (List.take (l_3.length - n_5.toNat) (List.drop n_5.toNat l_3)).isEmpty)
                                          ([] ++ List.take (n_5.toNat - 0) (List.drop 0 l_3) ++ [D.i IntKind.i64 n_4] ++ List.take (l_3.length - n_5.toNat) (List.drop n_5.toNat l_3)))),
                                    (4, V.d (D.i IntKind.i64 (IntKind.i64.wrap (n_4 + 1))))])
                                [(3, 1)] [])
                              Tr.ret))))))))))))))) :=
  rk_of (by kernel_rfl)
theorem f4_at22527 (b_0 : Bool) (l_1 : List D) (b_2 : Bool) (l_3 : List D) (n_4 : Int) (n_5 : Int) :
    rk Try.prog pol (Task.at_ 4 0 [false, true, false, true, true, true, true, true, true, true, true, true, true, true]
  (sv 163 [(0, V.d (D.l b_0 l_1)), (8, V.d (D.l b_2 l_3)), (10, V.d (D.i IntKind.i64 n_4)), (11, V.d (D.i IntKind.i64 n_5))]) [] []) = interp (rk Try.prog pol) (
brB (decide (n_5 < (↑l_1.length : Int)))
  (ob (getI l_1 n_5) fun (d_0 : D) =>
    ift (d_0.width == 1)
      (ob l_1[n_5.toNat]? fun (d_1 : D) =>
        ob d_1.cells[0]? fun (d_2 : D) =>
          asI IntKind.u16 d_2 fun (n_3 : Int) =>
            brB (decide (n_3.tmod 3 > 0))
              (ob (getI l_3 n_5) fun (d_4 : D) =>
                ift (d_4.width == 1)
                  (ob l_3[n_5.toNat]? fun (d_5 : D) =>
                    ob d_5.cells[0]? fun (d_6 : D) =>
                      asI IntKind.i64 d_6 fun (n_7 : Int) =>
                        ob (getI l_1 n_5) fun (d_8 : D) =>
                          ift (d_8.width == 1)
                            (ob l_1[n_5.toNat]? fun (d_9 : D) =>
                              ob d_9.cells[0]? fun (d_10 : D) =>
                                asI IntKind.u16 d_10 fun (n_11 : Int) =>
                                  brB (n_7 != IntKind.i64.wrap (1 + IntKind.i64.wrap (n_11.tmod 299))) (Tr.ret (V.d (D.b false), []))
                                    (Tr.call
                                      (Task.at_ 4 0 [true, true, false, false, true, false, true, true, true, true, true, true, true, true, true, true, true]
                                        (sv 163 [(0, V.d (D.l b_0 l_1)), (8, V.d (D.l b_2 l_3)), (10, V.d (D.i IntKind.i64 n_4)), (11, V.d (D.i IntKind.i64 n_5))]) [] [])
                                      Tr.ret))))
              (ob (getI l_3 n_5) fun (d_12 : D) =>
                ift (d_12.width == 1)
                  (ob l_3[n_5.toNat]? fun (d_13 : D) =>
                    ob d_13.cells[0]? fun (d_14 : D) =>
                      asI IntKind.i64 d_14 fun (n_15 : Int) =>
                        brB (n_15 != IntKind.i64.wrap (n_4 - 1)) (Tr.ret (V.d (D.b false), []))
                          (Tr.call
                            (Task.at_ 4 0 [true, true, false, false, true, false, true, true, true, true, true, true, true, true, true, true, true]
                              (sv 163 [(0, V.d (D.l b_0 l_1)), (8, V.d (D.l b_2 l_3)), (10, V.d (D.i IntKind.i64 (IntKind.i64.wrap (n_4 - 1)))), (11, V.d (D.i IntKind.i64 n_5))]) [] [])
                            Tr.ret)))))
  (Tr.call (Task.call 11 [V.d (D.l b_2 l_3)] []) fun (o_16 : Out) =>
    ift o_16.snd.isEmpty
      (asD o_16.fst fun (d_17 : D) =>
        asL d_17 fun (b_18 : Bool) (l_19 : List D) =>
          brB ((↑l_19.length : Int) != (↑l_3.length : Int)) (Tr.ret (V.d (D.b false), []))
            (Tr.call
              (Task.at_ 4 0 [false, true, false, true, true, true, true, true, true, true, true, true, true, true, true, true, true]
                (sv 163 [(8, V.d (D.l b_2 l_3)), (12, V.d (D.l b_18 l_19)), (13, V.d (D.i IntKind.i64 0))]) [] [])
              Tr.ret)))) :=
  rk_of (by kernel_rfl)
theorem f6_at201471 (b_0 : Bool) (l_1 : List D) (b_2 : Bool) (l_3 : List D) (n_4 : Int) (b_5 : Bool) (l_6 : List V) :
    rk Try.prog pol (Task.at_ 6 0 [true, false, false, false, true, false, false, true, false, true, true, true, true, true, true, true, true]
  (sv 117 [(3, V.d (D.l b_0 l_1)), (5, V.d (D.l b_2 l_3)), (6, V.p 0 0), (7, V.d (D.i IntKind.i64 n_4)), (61, V.d (D.b b_5))]) [(3, 1)] [Ob.cells l_6 []]) = interp (rk Try.prog pol) (
brB b_5 (Tr.ret (V.d (D.b false), []))
  (ob (getI l_3 n_4) fun (d_0 : D) =>
    ift (d_0.width == 1)
      (ob l_3[n_4.toNat]? fun (d_1 : D) =>
        ob d_1.cells[0]? fun (d_2 : D) =>
          asI IntKind.i64 d_2 fun (n_3 : Int) =>
            ift (decide (0 ≤ n_3 ∧ n_3 < 20))
              (ift (decide (0 + n_3.toNat * 1 < l_6.length) && true)
                (brB (decide (n_4 > 0))
                  (ob (getI l_3 (IntKind.i64.wrap (n_4 - 1))) fun (d_4 : D) =>
                    ift (d_4.width == 1)
                      (ob l_3[(IntKind.i64.wrap (n_4 - 1)).toNat]? fun (d_5 : D) =>
                        ob d_5.cells[0]? fun (d_6 : D) =>
                          asI IntKind.i64 d_6 fun (n_7 : Int) =>
                            ob (getI l_1 n_7) fun (d_8 : D) =>
                              ift (d_8.width == 1)
                                (ob l_1[n_7.toNat]? fun (d_9 : D) =>
                                  ob d_9.cells[0]? fun (d_10 : D) =>
                                    asI IntKind.i64 d_10 fun (n_11 : Int) =>
                                      ob (getI l_3 n_4) fun (d_12 : D) =>
                                        ift (d_12.width == 1)
                                          (ob l_3[n_4.toNat]? fun (d_13 : D) =>
                                            ob d_13.cells[0]? fun (d_14 : D) =>
                                              asI IntKind.i64 d_14 fun (n_15 : Int) =>
                                                ob (getI l_1 n_15) fun (d_16 : D) =>
                                                  ift (d_16.width == 1)
                                                    (ob l_1[n_15.toNat]? fun (d_17 : D) =>
                                                      ob d_17.cells[0]? fun (d_18 : D) =>
                                                        asI IntKind.i64 d_18 fun (n_19 : Int) =>
                                                          brB (decide (n_11 > n_19))
                                                            (Tr.call
                                                              (Task.at_ 6 0 [true, true, true, false, false, true, false, false, true, false, true, true, true, true, true, true, true, true]
                                                                (sv 117 [(3, V.d (D.l b_0 l_1)), (5, V.d (D.l b_2 l_3)), (6, V.p 0 0), (7, V.d (D.i IntKind.i64 n_4)), (116, V.d (D.b true))]) [(3, 1)]
                                                                [Ob.cells (l_6.set (0 + n_3.toNat * 1) (V.d (D.b true))) []])
                                                              Tr.ret)
                                                            (ob (getI l_3 (IntKind.i64.wrap (n_4 - 1))) fun (d_20 : D) =>
                                                              ift (d_20.width == 1)
                                                                (ob l_3[(IntKind.i64.wrap (n_4 - 1)).toNat]? fun (d_21 : D) =>
                                                                  ob d_21.cells[0]? fun (d_22 : D) =>
                                                                    asI IntKind.i64 d_22 fun (n_23 : Int) =>
                                                                      ob (getI l_1 n_23) fun (d_24 : D) =>
                                                                        ift (d_24.width == 1)
                                                                          (ob l_1[n_23.toNat]? fun (d_25 : D) =>
                                                                            ob d_25.cells[0]? fun (d_26 : D) =>
                                                                              asI IntKind.i64 d_26 fun (n_27 : Int) =>
                                                                                ob (getI l_3 n_4) fun (d_28 : D) =>
                                                                                  ift (d_28.width == 1)
                                                                                    (ob l_3[n_4.toNat]? fun (d_29 : D) =>
                                                                                      ob d_29.cells[0]? fun (d_30 : D) =>
                                                                                        asI IntKind.i64 d_30 fun (n_31 : Int) =>
                                                                                          ob (getI l_1 n_31) fun (d_32 : D) =>
                                                                                            ift (d_32.width == 1)
                                                                                              (ob l_1[n_31.toNat]? fun (d_33 : D) =>
                                                                                                ob d_33.cells[0]? fun (d_34 : D) =>
                                                                                                  asI IntKind.i64 d_34 fun (n_35 : Int) =>
                                                                                                    brB (n_27 == n_35)
                                                                                                      (ob (getI l_3 (IntKind.i64.wrap (n_4 - 1))) fun (d_36 : D) =>
                                                                                                        ift (d_36.width == 1)
                                                                                                          (ob l_3[(IntKind.i64.wrap (n_4 - 1)).toNat]? fun (d_37 : D) =>
                                                                                                            ob d_37.cells[0]? fun (d_38 : D) =>
                                                                                                              asI IntKind.i64 d_38 fun (n_39 : Int) =>
                                                                                                                ob (getI l_3 n_4) fun (d_40 : D) =>
                                                                                                                  ift (d_40.width == 1)
                                                                                                                    (ob l_3[n_4.toNat]? fun (d_41 : D) =>
                                                                                                                      ob d_41.cells[0]? fun (d_42 : D) =>
                                                                                                                        asI IntKind.i64 d_42 fun (n_43 : Int) =>
                                                                                                                          Tr.call
                                                                                                                            (Task.at_ 6 0
                                                                                                                              [true, true, true, false, false, true, false, false, true, false, true,
                                                                                                                                true, true, true, true, true, true, true]
                                                                                                                              (sv 117
                                                                                                                                [(3, V.d (D.l b_0 l_1)), (5, V.d (D.l b_2 l_3)), (6, V.p 0 0),
                                                                                                                                  (7, V.d (D.i IntKind.i64 n_4)),
                                                                                                                                  (116, V.d (D.b (decide (n_39 > n_43))))])
                                                                                                                              [(3, 1)] [Ob.cells (l_6.set (0 + n_3.toNat * 1) (V.d (D.b true))) []])
                                                                                                                            Tr.ret)))
                                                                                                      (Tr.call
                                                                                                        (Task.at_ 6 0
                                                                                                          [true, true, true, false, false, true, false, false, true, false, true, true, true, true,
                                                                                                            true, true, true, true]
                                                                                                          (sv 117
                                                                                                            [(3, V.d (D.l b_0 l_1)), (5, V.d (D.l b_2 l_3)), (6, V.p 0 0),
                                                                                                              (7, V.d (D.i IntKind.i64 n_4)), (116, V.d (D.b false))])
                                                                                                          [(3, 1)] [Ob.cells (l_6.set (0 + n_3.toNat * 1) (V.d (D.b true))) []])
                                                                                                        Tr.ret)))))))))))
                  (Tr.call
                    (Task.at_ 6 0 [true, true, true, false, false, true, false, false, true, false, true, true, true, true, true, true, true, true]
                      (sv 117 [(3, V.d (D.l b_0 l_1)), (5, V.d (D.l b_2 l_3)), (6, V.p 0 0), (7, V.d (D.i IntKind.i64 n_4)), (116, V.d (D.b false))]) [(3, 1)]
                      [Ob.cells (l_6.set (0 + n_3.toNat * 1) (V.d (D.b true))) []])
                    Tr.ret)))))) :=
  rk_of (by kernel_rfl)
theorem f8_at227735 (b_0 : Bool) (l_1 : List D) (n_2 : Int) (n_3 : Int) (b_4 : Bool) (l_5 : List D) (n_6 : Int) (n_7 : Int) (b_8 : Bool) (d_9 : D) (d_10 : D) (d_11 : D) (d_12 : D) (d_13 : D) (d_14 : D) (d_15 : D) (d_16 : D) (d_17 : D) (d_18 : D) (d_19 : D) (l_20 : List (D × D)) (l_21 : List (D × D)) :
    rk Try.prog pol (Task.at_ 8 0 [true, false, true, true, true, true, false, false, true, true, false, false, true, false, true, true, true]
  (sv 58
    [(2, V.d (D.l b_0 l_1)), (4, V.mp 0), (5, V.mp 1), (6, V.d (D.i IntKind.i64 n_2)), (8, V.p 2 0), (9, V.d (D.i IntKind.i64 n_3)), (12, V.d (D.l b_4 l_5)), (13, V.d (D.i IntKind.i64 n_6)),
      (14, V.d (D.i IntKind.i64 n_7)), (46, V.d (D.b b_8))])
  [(2, 1)] [Ob.cells [V.d d_9, V.d d_10, V.d d_11, V.d d_12, V.d d_13, V.d d_14, V.d d_15, V.d d_16, V.d d_17, V.d d_18, V.d d_19] [], Ob.map l_20, Ob.map l_21]) = interp (rk Try.prog pol) (
brB b_8 (Tr.ret (V.t [V.d (D.l true []), V.d (D.i IntKind.i64 8)], []))
  (asS d_13 fun (l_0 : List UInt8) =>
    ift (mfind (D.i IntKind.i64 n_3) l_21).isSome
      (ift (mfind (D.s l_0) l_20).isSome
        (ift (headOk 1 l_1)
          (ift (b_0 || true)
            (ift (decide (l_1.length + 1 ≤ 4294967296))
              (Tr.call
                (Task.at_ 8 0 [false, true, false, true, true, true]
                  (sv 58
                    [(2, V.d (D.l (b_0 && false) (l_1 ++ [D.i IntKind.i64 n_3]))), (4, V.mp 0), (5, V.mp 1), (6, V.d (D.i IntKind.i64 n_2)), (12, V.d (D.l b_4 l_5)), (13, V.d (D.i IntKind.i64 n_6)),
                      (14, V.d (D.i IntKind.i64 (IntKind.i64.wrap (n_7 + 1))))])
                  [(2, 1)] [Ob.map (mput (D.s l_0) (D.b true) l_20), Ob.map (mput (D.i IntKind.i64 n_3) (D.b true) l_21)])
                Tr.ret))))))) :=
  rk_of (by kernel_rfl)
theorem f9_at3300503 (b_0 : Bool) (l_1 : List D) (b_2 : Bool) (l_3 : List D) (n_4 : Int) (n_5 : Int) (n_6 : Int) (n_7 : Int) (b_8 : Bool) :
    rk Try.prog pol (Task.at_ 9 0 [true, false, false, true, false, false, true, false, true, true, true, false, false, true, false, false, true, false, true, true, true]
  (sv 73
    [(0, V.d (D.l b_0 l_1)), (4, V.d (D.l b_2 l_3)), (5, V.d (D.i IntKind.i64 n_4)), (6, V.d (D.i IntKind.i64 n_5)), (7, V.d (D.i IntKind.i64 n_6)), (8, V.d (D.i IntKind.i64 n_7)),
      (67, V.d (D.b b_8))])
  [(4, 1)] []) = interp (rk Try.prog pol) (
brB b_8 (Tr.ret (V.t [V.d (D.l true []), V.d (D.i IntKind.i64 8)], []))
  (Tr.call
    (Task.at_ 9 0 [false, true, false, true, true, true, false, false, true, false, false, true, false, true, true, true]
      (sv 73
        [(0, V.d (D.l b_0 l_1)), (4, V.d (D.l b_2 l_3)), (5, V.d (D.i IntKind.i64 n_4)), (6, V.d (D.i IntKind.i64 n_5)), (7, V.d (D.i IntKind.i64 n_6)),
          (8, V.d (D.i IntKind.i64 (IntKind.i64.wrap (n_7 + 1))))])
      [(4, 1)] [])
    Tr.ret)) :=
  rk_of (by kernel_rfl)
theorem f4_at235519 (b_0 : Bool) (l_1 : List D) (b_2 : Bool) (l_3 : List D) (n_4 : Int) (n_5 : Int) :
    rk Try.prog pol (Task.at_ 4 0 [true, true, false, false, true, false, true, true, true, true, true, true, true, true, true, true, true]
  (sv 163 [(0, V.d (D.l b_0 l_1)), (8, V.d (D.l b_2 l_3)), (10, V.d (D.i IntKind.i64 n_4)), (11, V.d (D.i IntKind.i64 n_5))]) [] []) = interp (rk Try.prog pol) (
Tr.call
  (Task.at_ 4 0 [false, true, false, true, true, true, true, true, true, true, true, true, true, true]
    (sv 163 [(0, V.d (D.l b_0 l_1)), (8, V.d (D.l b_2 l_3)), (10, V.d (D.i IntKind.i64 n_4)), (11, V.d (D.i IntKind.i64 (IntKind.i64.wrap (n_5 + 1))))]) [] [])
  Tr.ret) :=
  rk_of (by kernel_rfl)
theorem f4_at180223 (b_0 : Bool) (l_1 : List D) (b_2 : Bool) (l_3 : List D) (n_4 : Int) :
    rk Try.prog pol (Task.at_ 4 0 [false, true, false, true, true, true, true, true, true, true, true, true, true, true, true, true, true]
  (sv 163 [(8, V.d (D.l b_0 l_1)), (12, V.d (D.l b_2 l_3)), (13, V.d (D.i IntKind.i64 n_4))]) [] []) = interp (rk Try.prog pol) (
brB (decide (n_4 < (↑l_3.length : Int)))
  (ob (getI l_3 n_4) fun (d_0 : D) =>
    ift (d_0.width == 1)
      (ob l_3[n_4.toNat]? fun (d_1 : D) =>
        ob d_1.cells[0]? fun (d_2 : D) =>
          asI IntKind.i64 d_2 fun (n_3 : Int) =>
            brB (decide (n_3 < 0))
              (Tr.call
                (Task.at_ 4 0 [true, false, false, true, false, false, true, false, true, true, true, true, true, true, true, true, true, true, true, true, true, true]
                  (sv 163 [(8, V.d (D.l b_0 l_1)), (12, V.d (D.l b_2 l_3)), (13, V.d (D.i IntKind.i64 n_4)), (162, V.d (D.b true))]) [] [])
                Tr.ret)
              (ob (getI l_3 n_4) fun (d_4 : D) =>
                ift (d_4.width == 1)
                  (ob l_3[n_4.toNat]? fun (d_5 : D) =>
                    ob d_5.cells[0]? fun (d_6 : D) =>
                      asI IntKind.i64 d_6 fun (n_7 : Int) =>
                        brB (decide (n_7 ≥ (↑l_1.length : Int)))
                          (Tr.call
                            (Task.at_ 4 0 [true, false, false, true, false, false, true, false, true, true, true, true, true, true, true, true, true, true, true, true, true, true]
                              (sv 163 [(8, V.d (D.l b_0 l_1)), (12, V.d (D.l b_2 l_3)), (13, V.d (D.i IntKind.i64 n_4)), (162, V.d (D.b true))]) [] [])
                            Tr.ret)
                          (brB (decide (n_4 > 0))
                            (ob (getI l_3 (IntKind.i64.wrap (n_4 - 1))) fun (d_8 : D) =>
                              ift (d_8.width == 1)
                                (ob l_3[(IntKind.i64.wrap (n_4 - 1)).toNat]? fun (d_9 : D) =>
                                  ob d_9.cells[0]? fun (d_10 : D) =>
                                    asI IntKind.i64 d_10 fun (n_11 : Int) =>
                                      ob (getI l_1 n_11) fun (d_12 : D) =>
                                        ift (d_12.width == 1)
                                          (ob l_1[n_11.toNat]? fun (d_13 : D) =>
                                            ob d_13.cells[0]? fun (d_14 : D) =>
                                              asI IntKind.i64 d_14 fun (n_15 : Int) =>
                                                ob (getI l_3 n_4) fun (d_16 : D) =>
                                                  ift (d_16.width == 1)
                                                    (ob l_3[n_4.toNat]? fun (d_17 : D) =>
                                                      ob d_17.cells[0]? fun (d_18 : D) =>
                                                        asI IntKind.i64 d_18 fun (n_19 : Int) =>
                                                          ob (getI l_1 n_19) fun (d_20 : D) =>
                                                            ift (d_20.width == 1)
                                                              (ob l_1[n_19.toNat]? fun (d_21 : D) =>
                                                                ob d_21.cells[0]? fun (d_22 : D) =>
                                                                  asI IntKind.i64 d_22 fun (n_23 : Int) =>
                                                                    Tr.call
                                                                      (Task.at_ 4 0
                                                                        [true, false, false, true, false, false, true, false, true, true, true, true, true, true, true, true, true, true, true, true,
                                                                          true, true]
                                                                        (sv 163
                                                                          [(8, V.d (D.l b_0 l_1)), (12, V.d (D.l b_2 l_3)), (13, V.d (D.i IntKind.i64 n_4)), (162, V.d (D.b (decide (n_15 ≥ n_23))))])
                                                                        [] [])
                                                                      Tr.ret)))))
                            (Tr.call
                              (Task.at_ 4 0 [true, false, false, true, false, false, true, false, true, true, true, true, true, true, true, true, true, true, true, true, true, true]
                                (sv 163 [(8, V.d (D.l b_0 l_1)), (12, V.d (D.l b_2 l_3)), (13, V.d (D.i IntKind.i64 n_4)), (162, V.d (D.b false))]) [] [])
                              Tr.ret))))))
  (Tr.ret (V.d (D.b true), []))) :=
  rk_of (by kernel_rfl)
theorem f6_at496383 (b_0 : Bool) (l_1 : List D) (b_2 : Bool) (l_3 : List D) (n_4 : Int) (b_5 : Bool) (l_6 : List V) :
    rk Try.prog pol (Task.at_ 6 0 [true, true, true, false, false, true, false, false, true, false, true, true, true, true, true, true, true, true]
  (sv 117 [(3, V.d (D.l b_0 l_1)), (5, V.d (D.l b_2 l_3)), (6, V.p 0 0), (7, V.d (D.i IntKind.i64 n_4)), (116, V.d (D.b b_5))]) [(3, 1)] [Ob.cells l_6 []]) = interp (rk Try.prog pol) (
brB b_5 (Tr.ret (V.d (D.b false), []))
  (Tr.call
    (Task.at_ 6 0 [false, true, false, true, true, true, true, true, true, true, true]
      (sv 117 [(3, V.d (D.l b_0 l_1)), (5, V.d (D.l b_2 l_3)), (6, V.p 0 0), (7, V.d (D.i IntKind.i64 (IntKind.i64.wrap (n_4 + 1))))]) [(3, 1)] [Ob.cells l_6 []])
    Tr.ret)) :=
  rk_of (by kernel_rfl)
theorem f4_at6602751 (b_0 : Bool) (l_1 : List D) (b_2 : Bool) (l_3 : List D) (n_4 : Int) (b_5 : Bool) :
    rk Try.prog pol (Task.at_ 4 0 [true, false, false, true, false, false, true, false, true, true, true, true, true, true, true, true, true, true, true, true, true, true]
  (sv 163 [(8, V.d (D.l b_0 l_1)), (12, V.d (D.l b_2 l_3)), (13, V.d (D.i IntKind.i64 n_4)), (162, V.d (D.b b_5))]) [] []) = interp (rk Try.prog pol) (
brB b_5 (Tr.ret (V.d (D.b false), []))
  (Tr.call
    (Task.at_ 4 0 [false, true, false, true, true, true, true, true, true, true, true, true, true, true, true, true, true]
      (sv 163 [(8, V.d (D.l b_0 l_1)), (12, V.d (D.l b_2 l_3)), (13, V.d (D.i IntKind.i64 (IntKind.i64.wrap (n_4 + 1))))]) [] [])
    Tr.ret)) :=
  rk_of (by kernel_rfl)
end Go.Dn.Field
