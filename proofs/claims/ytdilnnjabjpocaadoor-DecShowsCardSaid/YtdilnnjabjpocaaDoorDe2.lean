/- package dec. Printed by a program of mine. -/
import Derived.Test.YtdilnnjabjpocaaDoorDe1
import Derived.Test.YtdilnnjabjpocaaDoorDn4
import Derived.KernelRfl
namespace Go.Dn.Dec
open Go.Proofs
theorem f48 (s : List UInt8) :
    rk Tryd.prog pol (Task.call 48 [V.d (D.s s)] []) = interp (rk Tryd.prog pol) (
Tr.call (Task.at_ 48 0 [false, false, true, true] (sv 29 [(0, V.d (D.s s)), (4, V.d (D.i IntKind.i64 0))]) [] []) Tr.ret) :=
  rk_of (by kernel_rfl)
theorem f47 (s : List UInt8) :
    rk Tryd.prog pol (Task.call 47 [V.d (D.s s)] []) = interp (rk Tryd.prog pol) (
brB (!s == [])
  (ob (getI s 0) fun (c_0 : UInt8) =>
    brB ((↑c_0.toNat : Int) == 43) (Tr.call (Task.at_ 47 0 [true, false, true] (sv 22 [(0, V.d (D.s s)), (15, V.d (D.b true))]) [] []) Tr.ret)
      (ob (getI s 0) fun (c_1 : UInt8) => Tr.call (Task.at_ 47 0 [true, false, true] (sv 22 [(0, V.d (D.s s)), (15, V.d (D.b ((↑c_1.toNat : Int) == 45)))]) [] []) Tr.ret))
  (Tr.call (Task.at_ 47 0 [true, false, true] (sv 22 [(0, V.d (D.s s)), (15, V.d (D.b false))]) [] []) Tr.ret)) :=
  rk_of (by kernel_rfl)
theorem f20 (s : List UInt8) :
    rk Tryd.prog pol (Task.call 20 [V.d (D.s s)] []) = interp (rk Tryd.prog pol) (
Tr.call (Task.call 47 [V.d (D.s s)] []) fun (o_0 : Out) =>
  ift o_0.snd.isEmpty
    (unT o_0.fst fun (l_1 : List V) =>
      ift (l_1.length == 2)
        (asD (l_1.getD 0 (V.d (D.b false))) fun (d_2 : D) =>
          asB d_2 fun (b_3 : Bool) =>
            asD (l_1.getD 1 (V.d (D.b false))) fun (d_4 : D) =>
              asS d_4 fun (l_5 : List UInt8) =>
                Tr.call (Task.call 48 [V.d (D.s l_5)] []) fun (o_6 : Out) =>
                  ift o_6.snd.isEmpty
                    (unT o_6.fst fun (l_7 : List V) =>
                      ift (l_7.length == 2)
                        (asD (l_7.getD 0 (V.d (D.b false))) fun (d_8 : D) =>
                          asS d_8 fun (l_9 : List UInt8) =>
                            asD (l_7.getD 1 (V.d (D.b false))) fun (d_10 : D) =>
                              asS d_10 fun (l_11 : List UInt8) =>
                                brB (!l_11 == [])
                                  (ob (getI l_11 0) fun (c_12 : UInt8) =>
                                    Tr.call
                                      (Task.at_ 20 0 [true, false, true, true, true] (sv 76 [(0, V.d (D.s l_11)), (2, V.p 0 0), (22, V.d (D.b ((↑c_12.toNat : Int) == 46)))]) []
                                        [Ob.cells [V.d (D.b b_3), V.d (D.s l_9), V.d (D.s []), V.d (D.b false), V.d (D.s [])] []])
                                      Tr.ret)
                                  (Tr.call
                                    (Task.at_ 20 0 [true, false, true, true, true] (sv 76 [(0, V.d (D.s l_11)), (2, V.p 0 0), (22, V.d (D.b false))]) []
                                      [Ob.cells [V.d (D.b b_3), V.d (D.s l_9), V.d (D.s []), V.d (D.b false), V.d (D.s [])] []])
                                    Tr.ret)))))) :=
  rk_of (by kernel_rfl)
theorem f22 (s : List UInt8) :
    rk Tryd.prog pol (Task.call 22 [V.d (D.s s)] []) = interp (rk Tryd.prog pol) (
Tr.call (Task.at_ 22 0 [false, true, false, true, true] (sv 21 [(0, V.d (D.s s)), (3, V.d (D.l true [])), (6, V.it 0)]) [(3, 1)] [Ob.iter s 0]) Tr.ret) :=
  rk_of (by kernel_rfl)
theorem f21 (b1 : Bool) (s1 : List UInt8) (s2 : List UInt8) (b2 : Bool) (s3 : List UInt8) :
    rk Tryd.prog pol (Task.call 21 [V.d (D.g [D.b b1, D.s s1, D.s s2, D.b b2, D.s s3])] []) = interp (rk Tryd.prog pol) (
Tr.call (Task.call 49 [V.d (D.s s3), V.d (D.s [48])] []) fun (o_0 : Out) =>
  ift o_0.snd.isEmpty
    (asD o_0.fst fun (d_1 : D) =>
      asS d_1 fun (l_2 : List UInt8) =>
        brB (decide ((↑l_2.length : Int) > 3)) (Tr.ret (V.t [V.d (D.i IntKind.i64 0), V.d (D.b false)], []))
          (Tr.call
            (Task.at_ 21 0 [false, true, false, true, true, true, true] (sv 37 [(1, V.p 0 0), (4, V.d (D.s l_2)), (5, V.d (D.i IntKind.i64 0)), (14, V.it 1)]) []
              [Ob.iter l_2 0, Ob.cells [V.d (D.b b1), V.d (D.s s1), V.d (D.s s2), V.d (D.b b2), V.d (D.s s3)] []])
            Tr.ret))) :=
  rk_of (by kernel_rfl)
theorem f54 (b : Bool) (xs : List D) (c : Bool) (ys : List D) :
    rk Tryd.prog pol (Task.call 54 [V.d (D.l b xs), V.d (D.l c ys)] []) = interp (rk Tryd.prog pol) (
Tr.call (Task.call 74 [V.d (D.l b xs), V.d (D.l c ys)] []) fun (o_0 : Out) =>
  ift o_0.snd.isEmpty
    (unT o_0.fst fun (l_1 : List V) =>
      ift (l_1.length == 3)
        (asD (l_1.getD 0 (V.d (D.b false))) fun (d_2 : D) =>
          asL d_2 fun (b_3 : Bool) (l_4 : List D) =>
            asD (l_1.getD 1 (V.d (D.b false))) fun (d_5 : D) =>
              asL d_5 fun (b_6 : Bool) (l_7 : List D) =>
                asD (l_1.getD 2 (V.d (D.b false))) fun (d_8 : D) =>
                  asB d_8 fun (b_9 : Bool) =>
                    Tr.call (Task.call 53 [V.d (D.l b_6 l_7), V.d (D.i IntKind.i64 1)] []) fun (o_10 : Out) =>
                      ift o_10.snd.isEmpty
                        (asD o_10.fst fun (d_11 : D) =>
                          asL d_11 fun (b_12 : Bool) (l_13 : List D) =>
                            Tr.call (Task.call 62 [V.d (D.l b_12 l_13), V.d (D.l c ys)] []) fun (o_14 : Out) =>
                              ift o_14.snd.isEmpty
                                (asD o_14.fst fun (d_15 : D) =>
                                  asI IntKind.i64 d_15 fun (n_16 : Int) =>
                                    brB (decide (n_16 > 0)) (Tr.call (Task.at_ 54 0 [true, false, true, true, true] (sv 36 [(5, V.d (D.l b_3 l_4)), (31, V.d (D.b true))]) [] []) Tr.ret)
                                      (brB (n_16 == 0)
                                        (Tr.call (Task.call 56 [V.d (D.l b_3 l_4)] []) fun (o_17 : Out) =>
                                          ift o_17.snd.isEmpty
                                            (asD o_17.fst fun (d_18 : D) =>
                                              asI IntKind.u64 d_18 fun (n_19 : Int) =>
                                                Tr.call
                                                  (Task.at_ 54 0 [true, false, true, true, true]
                                                    (sv 36
                                                      [(5, V.d (D.l b_3 l_4)),
                                                        (31, V.d (D.b (IntKind.u64.wrap (↑(BitVec.ofInt IntKind.u64.bits n_19 &&& BitVec.ofInt IntKind.u64.bits 1).toNat : Int) == 1)))])
                                                    [] [])
                                                  Tr.ret))
                                        (Tr.call (Task.at_ 54 0 [true, false, true, true, true] (sv 36 [(5, V.d (D.l b_3 l_4)), (31, V.d (D.b false))]) [] []) Tr.ret))))))) :=
  rk_of (by kernel_rfl)
theorem f55 (q : Int) (e : Int) :
    rk Tryd.prog pol (Task.call 55 [V.d (D.i IntKind.u64 q), V.d (D.i IntKind.i64 e)] []) = interp (rk Tryd.prog pol) (
brB (q.fdiv 4503599627370496 == 0) (Tr.ret (V.t [V.d (D.i IntKind.u64 q), V.d (D.b true)], []))
  (brB (decide (e > 971)) (Tr.ret (V.t [V.d (D.i IntKind.u64 0), V.d (D.b false)], []))
    (Tr.ret
      (V.t
          [V.d
              (D.i IntKind.u64
                (IntKind.u64.wrap
                  (↑(BitVec.ofInt IntKind.u64.bits (IntKind.u64.wrap (IntKind.u64.wrap (IntKind.i64.wrap (IntKind.i64.wrap (e - -1074) + 1)) * 4503599627370496)) |||
                          BitVec.ofInt IntKind.u64.bits (IntKind.u64.wrap (↑(BitVec.ofInt IntKind.u64.bits q &&& BitVec.ofInt IntKind.u64.bits 4503599627370495).toNat : Int))).toNat :
                    Int))),
            V.d (D.b true)],
        [])))) :=
  rk_of (by kernel_rfl)
theorem f26 (b : Bool) (xs : List D) (c : Bool) (ys : List D) :
    rk Tryd.prog pol (Task.call 26 [V.d (D.l b xs), V.d (D.l c ys)] []) = interp (rk Tryd.prog pol) (
Tr.call (Task.call 34 [V.d (D.l b xs)] []) fun (o_0 : Out) =>
  ift o_0.snd.isEmpty
    (asD o_0.fst fun (d_1 : D) =>
      asI IntKind.i64 d_1 fun (n_2 : Int) =>
        brB (n_2 == 0) (Tr.ret (V.t [V.d (D.i IntKind.u64 0), V.d (D.b true)], []))
          (Tr.call (Task.call 34 [V.d (D.l b xs)] []) fun (o_3 : Out) =>
            ift o_3.snd.isEmpty
              (asD o_3.fst fun (d_4 : D) =>
                asI IntKind.i64 d_4 fun (n_5 : Int) =>
                  Tr.call (Task.call 34 [V.d (D.l c ys)] []) fun (o_6 : Out) =>
                    ift o_6.snd.isEmpty
                      (asD o_6.fst fun (d_7 : D) =>
                        asI IntKind.i64 d_7 fun (n_8 : Int) =>
                          Tr.call
                            (Task.at_ 26 0 [false, true, true, true]
                              (sv 46
                                [(0, V.d (D.l b xs)), (1, V.d (D.l c ys)),
                                  (6,
                                    V.d
                                      (D.i IntKind.i64
                                        (if -1074 > IntKind.i64.wrap (IntKind.i64.wrap (IntKind.i64.wrap (n_5 - n_8) - 52) - 1) then -1074
                                        else IntKind.i64.wrap (IntKind.i64.wrap (IntKind.i64.wrap (n_5 - n_8) - 52) - 1))))])
                              [] [])
                            Tr.ret))))) :=
  rk_of (by kernel_rfl)
theorem f33 (q : Int) :
    rk Tryd.prog pol (Task.call 33 [V.d (D.i IntKind.u64 q)] []) = interp (rk Tryd.prog pol) (
brB (decide (IntKind.i64.wrap (IntKind.u64.wrap (↑(BitVec.ofInt IntKind.u64.bits (q.fdiv 4503599627370496) &&& BitVec.ofInt IntKind.u64.bits 2047).toNat : Int)) > 0))
  (Tr.call
    (Task.at_ 33 0 [true, true, true]
      (sv 34
        [(4,
            V.d
              (D.i IntKind.u64
                (IntKind.u64.wrap
                  (↑(BitVec.ofInt IntKind.u64.bits (IntKind.u64.wrap (↑(BitVec.ofInt IntKind.u64.bits q &&& BitVec.ofInt IntKind.u64.bits 4503599627370495).toNat : Int)) |||
                          BitVec.ofInt IntKind.u64.bits 4503599627370496).toNat :
                    Int)))),
          (5,
            V.d
              (D.i IntKind.i64
                (IntKind.i64.wrap
                  (-1074 +
                    IntKind.i64.wrap (IntKind.i64.wrap (IntKind.u64.wrap (↑(BitVec.ofInt IntKind.u64.bits (q.fdiv 4503599627370496) &&& BitVec.ofInt IntKind.u64.bits 2047).toNat : Int)) - 1)))))])
      [] [])
    Tr.ret)
  (Tr.call
    (Task.at_ 33 0 [true, true, true]
      (sv 34 [(4, V.d (D.i IntKind.u64 (IntKind.u64.wrap (↑(BitVec.ofInt IntKind.u64.bits q &&& BitVec.ofInt IntKind.u64.bits 4503599627370495).toNat : Int)))), (5, V.d (D.i IntKind.i64 (-1074)))]) []
      [])
    Tr.ret)) :=
  rk_of (by kernel_rfl)
theorem f35 (b : Bool) (xs : List D) (c : Bool) (ys : List D) (n : Int) :
    rk Tryd.prog pol (Task.call 35 [V.d (D.l b xs), V.d (D.l c ys), V.d (D.i IntKind.i64 n)] []) = interp (rk Tryd.prog pol) (
brB (decide (n < 0))
  (Tr.call (Task.call 25 [V.d (D.i IntKind.i64 (IntKind.i64.wrap (0 - n)))] []) fun (o_0 : Out) =>
    ift o_0.snd.isEmpty
      (asD o_0.fst fun (d_1 : D) =>
        asL d_1 fun (b_2 : Bool) (l_3 : List D) =>
          Tr.call (Task.call 24 [V.d (D.l b xs), V.d (D.l b_2 l_3)] []) fun (o_4 : Out) =>
            ift o_4.snd.isEmpty
              (asD o_4.fst fun (d_5 : D) =>
                asL d_5 fun (b_6 : Bool) (l_7 : List D) =>
                  Tr.call (Task.call 62 [V.d (D.l b_6 l_7), V.d (D.l c ys)] []) fun (o_8 : Out) =>
                    ift o_8.snd.isEmpty (asD o_8.fst fun (d_9 : D) => asI IntKind.i64 d_9 fun (n_10 : Int) => Tr.ret (V.d (D.b (decide (n_10 < 0))), [])))))
  (Tr.call (Task.call 25 [V.d (D.i IntKind.i64 n)] []) fun (o_11 : Out) =>
    ift o_11.snd.isEmpty
      (asD o_11.fst fun (d_12 : D) =>
        asL d_12 fun (b_13 : Bool) (l_14 : List D) =>
          Tr.call (Task.call 24 [V.d (D.l c ys), V.d (D.l b_13 l_14)] []) fun (o_15 : Out) =>
            ift o_15.snd.isEmpty
              (asD o_15.fst fun (d_16 : D) =>
                asL d_16 fun (b_17 : Bool) (l_18 : List D) =>
                  Tr.call (Task.call 62 [V.d (D.l b xs), V.d (D.l b_17 l_18)] []) fun (o_19 : Out) =>
                    ift o_19.snd.isEmpty (asD o_19.fst fun (d_20 : D) => asI IntKind.i64 d_20 fun (n_21 : Int) => Tr.ret (V.d (D.b (decide (n_21 < 0))), [])))))) :=
  rk_of (by kernel_rfl)
theorem f37 (b : Bool) (xs : List D) (c : Bool) (ys : List D) (n : Int) :
    rk Tryd.prog pol (Task.call 37 [V.d (D.l b xs), V.d (D.l c ys), V.d (D.i IntKind.i64 n)] []) = interp (rk Tryd.prog pol) (
brB (decide (n < 0))
  (Tr.call (Task.call 25 [V.d (D.i IntKind.i64 (IntKind.i64.wrap (0 - n)))] []) fun (o_0 : Out) =>
    ift o_0.snd.isEmpty
      (asD o_0.fst fun (d_1 : D) =>
        asL d_1 fun (b_2 : Bool) (l_3 : List D) =>
          Tr.call (Task.call 24 [V.d (D.l b xs), V.d (D.l b_2 l_3)] []) fun (o_4 : Out) =>
            ift o_4.snd.isEmpty
              (asD o_4.fst fun (d_5 : D) =>
                asL d_5 fun (b_6 : Bool) (l_7 : List D) =>
                  Tr.call (Task.call 54 [V.d (D.l b_6 l_7), V.d (D.l c ys)] []) fun (o_8 : Out) =>
                    ift o_8.snd.isEmpty (asD o_8.fst fun (d_9 : D) => asL d_9 fun (b_10 : Bool) (l_11 : List D) => Tr.ret (V.d (D.l b_10 l_11), [])))))
  (Tr.call (Task.call 25 [V.d (D.i IntKind.i64 n)] []) fun (o_12 : Out) =>
    ift o_12.snd.isEmpty
      (asD o_12.fst fun (d_13 : D) =>
        asL d_13 fun (b_14 : Bool) (l_15 : List D) =>
          Tr.call (Task.call 24 [V.d (D.l c ys), V.d (D.l b_14 l_15)] []) fun (o_16 : Out) =>
            ift o_16.snd.isEmpty
              (asD o_16.fst fun (d_17 : D) =>
                asL d_17 fun (b_18 : Bool) (l_19 : List D) =>
                  Tr.call (Task.call 54 [V.d (D.l b xs), V.d (D.l b_18 l_19)] []) fun (o_20 : Out) =>
                    ift o_20.snd.isEmpty (asD o_20.fst fun (d_21 : D) => asL d_21 fun (b_22 : Bool) (l_23 : List D) => Tr.ret (V.d (D.l b_22 l_23), [])))))) :=
  rk_of (by kernel_rfl)
theorem f36 (b : Bool) (xs : List D) :
    rk Tryd.prog pol (Task.call 36 [V.d (D.l b xs)] []) = interp (rk Tryd.prog pol) (
Tr.call (Task.call 56 [V.d (D.l b xs)] []) fun (o_0 : Out) =>
  ift o_0.snd.isEmpty
    (asD o_0.fst fun (d_1 : D) =>
      asI IntKind.u64 d_1 fun (n_2 : Int) =>
        Tr.call (Task.call 63 [V.d (D.i IntKind.u64 n_2), V.d (D.i IntKind.i64 10)] []) fun (o_3 : Out) =>
          ift o_3.snd.isEmpty (asD o_3.fst fun (d_4 : D) => asS d_4 fun (l_5 : List UInt8) => Tr.ret (V.d (D.s l_5), [])))) :=
  rk_of (by kernel_rfl)
theorem f17 (n : Int) :
    rk Tryd.prog pol (Task.call 17 [V.d (D.i IntKind.i64 n)] []) = interp (rk Tryd.prog pol) (
brB (decide (n < 0)) (Tr.call (Task.at_ 17 0 [true, true, true] (sv 24 [(0, V.d (D.i IntKind.i64 n)), (3, V.d (D.i IntKind.u64 (IntKind.u64.wrap (0 - IntKind.u64.wrap n))))]) [] []) Tr.ret)
  (Tr.call (Task.at_ 17 0 [true, true, true] (sv 24 [(0, V.d (D.i IntKind.i64 n)), (3, V.d (D.i IntKind.u64 (IntKind.u64.wrap n)))]) [] []) Tr.ret)) :=
  rk_of (by kernel_rfl)
theorem f13 (s : List UInt8) :
    rk Tryd.prog pol (Task.call 13 [V.d (D.s s)] []) = interp (rk Tryd.prog pol) (
Tr.call (Task.call 20 [V.d (D.s s)] []) fun (o_0 : Out) =>
  ift o_0.snd.isEmpty
    (unT o_0.fst fun (l_1 : List V) =>
      ift (l_1.length == 2)
        (asD (l_1.getD 0 (V.d (D.b false))) fun (d_2 : D) =>
          asG 5 d_2 fun (l_3 : List D) =>
            asD (l_1.getD 1 (V.d (D.b false))) fun (d_4 : D) =>
              asB d_4 fun (b_5 : Bool) =>
                ift ([V.d (l_3.getD 0 (D.b false)), V.d (l_3.getD 1 (D.b false)), V.d (l_3.getD 2 (D.b false)), V.d (l_3.getD 3 (D.b false)), V.d (l_3.getD 4 (D.b false))].all V.one)
                  (brB (!b_5) (Tr.ret (V.t [V.d (D.i IntKind.u64 0), V.d (D.i IntKind.i64 2)], []))
                    (asS (l_3.getD 1 (D.b false)) fun (l_6 : List UInt8) =>
                      asS (l_3.getD 2 (D.b false)) fun (l_7 : List UInt8) =>
                        brB (decide (IntKind.i64.wrap ((↑l_6.length : Int) + (↑l_7.length : Int)) > 60)) (Tr.ret (V.t [V.d (D.i IntKind.u64 0), V.d (D.i IntKind.i64 4)], []))
                          (Tr.call (Task.call 21 [V.d (D.g [l_3.getD 0 (D.b false), l_3.getD 1 (D.b false), l_3.getD 2 (D.b false), l_3.getD 3 (D.b false), l_3.getD 4 (D.b false)])] [])
                            fun (o_8 : Out) =>
                            ift o_8.snd.isEmpty
                              (unT o_8.fst fun (l_9 : List V) =>
                                ift (l_9.length == 2)
                                  (asD (l_9.getD 0 (V.d (D.b false))) fun (d_10 : D) =>
                                    asI IntKind.i64 d_10 fun (n_11 : Int) =>
                                      asD (l_9.getD 1 (V.d (D.b false))) fun (d_12 : D) =>
                                        asB d_12 fun (b_13 : Bool) =>
                                          brB (!b_13) (Tr.ret (V.t [V.d (D.i IntKind.u64 0), V.d (D.i IntKind.i64 5)], []))
                                            (asS (l_3.getD 2 (D.b false)) fun (l_14 : List UInt8) =>
                                              asS (l_3.getD 1 (D.b false)) fun (l_15 : List UInt8) =>
                                                asS (l_3.getD 2 (D.b false)) fun (l_16 : List UInt8) =>
                                                  ift (decide (l_15.length + l_16.length < 4611686018427387904))
                                                    (Tr.call (Task.call 22 [V.d (D.s (l_15 ++ l_16))] []) fun (o_17 : Out) =>
                                                      ift o_17.snd.isEmpty
                                                        (asD o_17.fst fun (d_18 : D) =>
                                                          asL d_18 fun (b_19 : Bool) (l_20 : List D) =>
                                                            Tr.call (Task.call 23 [V.d (D.i IntKind.u64 1)] []) fun (o_21 : Out) =>
                                                              ift o_21.snd.isEmpty
                                                                (asD o_21.fst fun (d_22 : D) =>
                                                                  asL d_22 fun (b_23 : Bool) (l_24 : List D) =>
                                                                    brB (decide (IntKind.i64.wrap (n_11 - (↑l_14.length : Int)) > 0))
                                                                      (Tr.call (Task.call 25 [V.d (D.i IntKind.i64 (IntKind.i64.wrap (n_11 - (↑l_14.length : Int))))] []) fun (o_25 : Out) =>
                                                                        ift o_25.snd.isEmpty
                                                                          (asD o_25.fst fun (d_26 : D) =>
                                                                            asL d_26 fun (b_27 : Bool) (l_28 : List D) =>
                                                                              Tr.call (Task.call 24 [V.d (D.l b_19 l_20), V.d (D.l b_27 l_28)] []) fun (o_29 : Out) =>
                                                                                ift o_29.snd.isEmpty
                                                                                  (asD o_29.fst fun (d_30 : D) =>
                                                                                    asL d_30 fun (b_31 : Bool) (l_32 : List D) =>
                                                                                      Tr.call
                                                                                        (Task.at_ 13 0 [true, true, true, true, true, true, true, true]
                                                                                          (sv 68 [(4, V.p 0 0), (7, V.d (D.l b_31 l_32)), (8, V.d (D.l b_23 l_24))]) []
                                                                                          [Ob.cells
                                                                                              [V.d (l_3.getD 0 (D.b false)), V.d (l_3.getD 1 (D.b false)), V.d (l_3.getD 2 (D.b false)),
                                                                                                V.d (l_3.getD 3 (D.b false)), V.d (l_3.getD 4 (D.b false))]
                                                                                              []])
                                                                                        Tr.ret)))
                                                                      (Tr.call (Task.call 25 [V.d (D.i IntKind.i64 (IntKind.i64.wrap (0 - IntKind.i64.wrap (n_11 - (↑l_14.length : Int)))))] [])
                                                                        fun (o_33 : Out) =>
                                                                        ift o_33.snd.isEmpty
                                                                          (asD o_33.fst fun (d_34 : D) =>
                                                                            asL d_34 fun (b_35 : Bool) (l_36 : List D) =>
                                                                              Tr.call
                                                                                (Task.at_ 13 0 [true, true, true, true, true, true, true, true]
                                                                                  (sv 68 [(4, V.p 0 0), (7, V.d (D.l b_19 l_20)), (8, V.d (D.l b_35 l_36))]) []
                                                                                  [Ob.cells
                                                                                      [V.d (l_3.getD 0 (D.b false)), V.d (l_3.getD 1 (D.b false)), V.d (l_3.getD 2 (D.b false)),
                                                                                        V.d (l_3.getD 3 (D.b false)), V.d (l_3.getD 4 (D.b false))]
                                                                                      []])
                                                                                Tr.ret)))))))))))))) :=
  rk_of (by kernel_rfl)
theorem f15 (q : Int) :
    rk Tryd.prog pol (Task.call 15 [V.d (D.i IntKind.u64 q)] []) = interp (rk Tryd.prog pol) (
brB (IntKind.u64.wrap (↑(BitVec.ofInt IntKind.u64.bits (q.fdiv 4503599627370496) &&& BitVec.ofInt IntKind.u64.bits 2047).toNat : Int) == 2047) (Tr.ret (V.d (D.s []), []))
  (brB (IntKind.u64.wrap (↑(BitVec.ofInt IntKind.u64.bits q &&& BitVec.ofInt IntKind.u64.bits 9223372036854775808).toNat : Int) != 0)
    (Tr.call
      (Task.at_ 15 0 [true, true, true, true]
        (sv 76 [(0, V.d (D.i IntKind.u64 (IntKind.u64.wrap (↑(BitVec.ofInt IntKind.u64.bits q &&& ~~~BitVec.ofInt IntKind.u64.bits 9223372036854775808).toNat : Int)))), (3, V.d (D.s [45]))]) [] [])
      Tr.ret)
    (Tr.call (Task.at_ 15 0 [true, true, true, true] (sv 76 [(0, V.d (D.i IntKind.u64 q)), (3, V.d (D.s []))]) [] []) Tr.ret))) :=
  rk_of (by kernel_rfl)
theorem f48_at19 (l_0 : List UInt8) (n_1 : Int) :
    rk Tryd.prog pol (Task.at_ 48 0 [false, false, true, true] (sv 29 [(0, V.d (D.s l_0)), (4, V.d (D.i IntKind.i64 n_1))]) [] []) = interp (rk Tryd.prog pol) (
brB (decide (n_1 < (↑l_0.length : Int)))
  (ob (getI l_0 n_1) fun (c_0 : UInt8) =>
    brB (decide ((↑c_0.toNat : Int) ≥ 48))
      (ob (getI l_0 n_1) fun (c_1 : UInt8) =>
        Tr.call (Task.at_ 48 0 [true, false, false, false, false, true, true] (sv 29 [(0, V.d (D.s l_0)), (4, V.d (D.i IntKind.i64 n_1)), (20, V.d (D.b (decide ((↑c_1.toNat : Int) ≤ 57))))]) [] [])
          Tr.ret)
      (Tr.call (Task.at_ 48 0 [true, false, false, false, false, true, true] (sv 29 [(0, V.d (D.s l_0)), (4, V.d (D.i IntKind.i64 n_1)), (20, V.d (D.b false))]) [] []) Tr.ret))
  (Tr.call (Task.at_ 48 0 [true, false, false, false, false, true, true] (sv 29 [(0, V.d (D.s l_0)), (4, V.d (D.i IntKind.i64 n_1)), (20, V.d (D.b false))]) [] []) Tr.ret)) :=
  rk_of (by kernel_rfl)
theorem f47_at13 (l_0 : List UInt8) (b_1 : Bool) :
    rk Tryd.prog pol (Task.at_ 47 0 [true, false, true] (sv 22 [(0, V.d (D.s l_0)), (15, V.d (D.b b_1))]) [] []) = interp (rk Tryd.prog pol) (
brB b_1
  (ob (getI l_0 0) fun (c_0 : UInt8) =>
    ift (decide ((0 : Int) ≤ 1 ∧ 1 ≤ (↑l_0.length : Int))) (Tr.ret (V.t [V.d (D.b ((↑c_0.toNat : Int) == 45)), V.d (D.s (List.take (l_0.length - 1) (List.drop 1 l_0)))], [])))
  (Tr.ret (V.t [V.d (D.b false), V.d (D.s l_0)], []))) :=
  rk_of (by kernel_rfl)
theorem f20_at55 (l_0 : List UInt8) (b_1 : Bool) (b_2 : Bool) (l_3 : List UInt8) (l_4 : List UInt8) (b_5 : Bool) (l_6 : List UInt8) :
    rk Tryd.prog pol (Task.at_ 20 0 [true, false, true, true, true] (sv 76 [(0, V.d (D.s l_0)), (2, V.p 0 0), (22, V.d (D.b b_1))]) []
  [Ob.cells [V.d (D.b b_2), V.d (D.s l_3), V.d (D.s l_4), V.d (D.b b_5), V.d (D.s l_6)] []]) = interp (rk Tryd.prog pol) (
brB b_1
  (ift (decide ((0 : Int) ≤ 1 ∧ 1 ≤ (↑l_0.length : Int)))
    (Tr.call (Task.call 48 [V.d (D.s (List.take (l_0.length - 1) (List.drop 1 l_0)))] []) fun (o_0 : Out) =>
      ift o_0.snd.isEmpty
        (unT o_0.fst fun (l_1 : List V) =>
          ift (l_1.length == 2)
            (asD (l_1.getD 0 (V.d (D.b false))) fun (d_2 : D) =>
              asS d_2 fun (l_3_1 : List UInt8) =>
                asD (l_1.getD 1 (V.d (D.b false))) fun (d_4 : D) =>
                  asS d_4 fun (l_5 : List UInt8) =>
                    brB (l_3_1 == []) (Tr.ret (V.t [V.d (D.g [D.b b_2, D.s l_3, D.s l_3_1, D.b b_5, D.s l_6]), V.d (D.b false)], []))
                      (brB (l_3 == [])
                        (Tr.call
                          (Task.at_ 20 0 [true, false, true, true, true, true] (sv 76 [(0, V.d (D.s l_5)), (2, V.p 0 0), (41, V.d (D.b (l_3_1 == [])))]) []
                            [Ob.cells [V.d (D.b b_2), V.d (D.s l_3), V.d (D.s l_3_1), V.d (D.b b_5), V.d (D.s l_6)] []])
                          Tr.ret)
                        (Tr.call
                          (Task.at_ 20 0 [true, false, true, true, true, true] (sv 76 [(0, V.d (D.s l_5)), (2, V.p 0 0), (41, V.d (D.b false))]) []
                            [Ob.cells [V.d (D.b b_2), V.d (D.s l_3), V.d (D.s l_3_1), V.d (D.b b_5), V.d (D.s l_6)] []])
                          Tr.ret))))))
  (brB (l_3 == [])
    (Tr.call
      (Task.at_ 20 0 [true, false, true, true, true, true] (sv 76 [(0, V.d (D.s l_0)), (2, V.p 0 0), (41, V.d (D.b (l_4 == [])))]) []
        [Ob.cells [V.d (D.b b_2), V.d (D.s l_3), V.d (D.s l_4), V.d (D.b b_5), V.d (D.s l_6)] []])
      Tr.ret)
    (Tr.call
      (Task.at_ 20 0 [true, false, true, true, true, true] (sv 76 [(0, V.d (D.s l_0)), (2, V.p 0 0), (41, V.d (D.b false))]) []
        [Ob.cells [V.d (D.b b_2), V.d (D.s l_3), V.d (D.s l_4), V.d (D.b b_5), V.d (D.s l_6)] []])
      Tr.ret))) :=
  rk_of (by kernel_rfl)
theorem f22_at43 (l_0 : List UInt8) (b_1 : Bool) (l_2 : List D) (l_3 : List UInt8) :
    rk Tryd.prog pol (Task.at_ 22 0 [false, true, false, true, true] (sv 21 [(0, V.d (D.s l_0)), (3, V.d (D.l b_1 l_2)), (6, V.it 0)]) [(3, 1)] [Ob.iter l_3 0]) = interp (rk Tryd.prog pol) (
brB (decide (0 < l_3.length))
  (Tr.call (Task.call 23 [V.d (D.i IntKind.u64 10)] []) fun (o_0 : Out) =>
    ift o_0.snd.isEmpty
      (asD o_0.fst fun (d_1 : D) =>
        asL d_1 fun (b_2 : Bool) (l_3_1 : List D) =>
          Tr.call (Task.call 24 [V.d (D.l b_1 l_2), V.d (D.l b_2 l_3_1)] []) fun (o_4 : Out) =>
            ift o_4.snd.isEmpty
              (asD o_4.fst fun (d_5 : D) =>
                asL d_5 fun (b_6 : Bool) (l_7 : List D) =>
                  ob (getI l_0 0) fun (c_8 : UInt8) =>
                    Tr.call (Task.call 23 [V.d (D.i IntKind.u64 (IntKind.u64.wrap (IntKind.u8.wrap ((↑c_8.toNat : Int) - 48))))] []) fun (o_9 : Out) =>
                      ift o_9.snd.isEmpty
                        (asD o_9.fst fun (d_10 : D) =>
                          asL d_10 fun (b_11 : Bool) (l_12 : List D) =>
                            Tr.call (Task.call 50 [V.d (D.l b_6 l_7), V.d (D.l b_11 l_12)] []) fun (o_13 : Out) =>
                              ift o_13.snd.isEmpty
                                (asD o_13.fst fun (d_14 : D) =>
                                  asL d_14 fun (b_15 : Bool) (l_16 : List D) =>
                                    Tr.call
                                      (Task.at_ 22 0 [false, true, false, true, true] (sv 21 [(0, V.d (D.s l_0)), (3, V.d (D.l b_15 l_16)), (6, V.it 0)]) []
                                        [Ob.iter l_3 (0 + (Utf8.decode (ByteArray.mk l_3.toArray) 0).snd)])
                                      Tr.ret)))))
  (Tr.ret (V.d (D.l b_1 l_2), []))) :=
  rk_of (by kernel_rfl)
theorem f21_at175 (l_0 : List UInt8) (n_1 : Int) (l_2 : List UInt8) (b_3 : Bool) (l_4 : List UInt8) (l_5 : List UInt8) (b_6 : Bool) (l_7 : List UInt8) :
    rk Tryd.prog pol (Task.at_ 21 0 [false, true, false, true, true, true, true] (sv 37 [(1, V.p 0 0), (4, V.d (D.s l_0)), (5, V.d (D.i IntKind.i64 n_1)), (14, V.it 1)]) []
  [Ob.iter l_2 0, Ob.cells [V.d (D.b b_3), V.d (D.s l_4), V.d (D.s l_5), V.d (D.b b_6), V.d (D.s l_7)] []]) = interp (rk Tryd.prog pol) (
brB (decide (0 < l_2.length))
  (ob (getI l_0 0) fun (c_0 : UInt8) =>
    Tr.call
      (Task.at_ 21 0 [false, true, false, true, true, true, true]
        (sv 37
          [(1, V.p 0 0), (4, V.d (D.s l_0)), (5, V.d (D.i IntKind.i64 (IntKind.i64.wrap (IntKind.i64.wrap (10 * n_1) + IntKind.i64.wrap (IntKind.u8.wrap ((↑c_0.toNat : Int) - 48)))))), (14, V.it 1)])
        [] [Ob.iter l_2 (0 + (Utf8.decode (ByteArray.mk l_2.toArray) 0).snd), Ob.cells [V.d (D.b b_3), V.d (D.s l_4), V.d (D.s l_5), V.d (D.b b_6), V.d (D.s l_7)] []])
      Tr.ret)
  (brB b_6 (Tr.call (Task.at_ 21 0 [true, true, true, true, true, true] (sv 37 [(5, V.d (D.i IntKind.i64 (IntKind.i64.wrap (0 - n_1))))]) [] []) Tr.ret)
    (Tr.call (Task.at_ 21 0 [true, true, true, true, true, true] (sv 37 [(5, V.d (D.i IntKind.i64 n_1))]) [] []) Tr.ret))) :=
  rk_of (by kernel_rfl)
theorem f54_at55 (b_0 : Bool) (l_1 : List D) (b_2 : Bool) :
    rk Tryd.prog pol (Task.at_ 54 0 [true, false, true, true, true] (sv 36 [(5, V.d (D.l b_0 l_1)), (31, V.d (D.b b_2))]) [] []) = interp (rk Tryd.prog pol) (
brB b_2
  (Tr.call (Task.call 23 [V.d (D.i IntKind.u64 1)] []) fun (o_0 : Out) =>
    ift o_0.snd.isEmpty
      (asD o_0.fst fun (d_1 : D) =>
        asL d_1 fun (b_2 : Bool) (l_3 : List D) =>
          Tr.call (Task.call 50 [V.d (D.l b_0 l_1), V.d (D.l b_2 l_3)] []) fun (o_4 : Out) =>
            ift o_4.snd.isEmpty (asD o_4.fst fun (d_5 : D) => asL d_5 fun (b_6 : Bool) (l_7 : List D) => Tr.ret (V.d (D.l b_6 l_7), []))))
  (Tr.ret (V.d (D.l b_0 l_1), []))) :=
  rk_of (by kernel_rfl)
theorem f26_at23 (b_0 : Bool) (l_1 : List D) (b_2 : Bool) (l_3 : List D) (n_4 : Int) :
    rk Tryd.prog pol (Task.at_ 26 0 [false, true, true, true] (sv 46 [(0, V.d (D.l b_0 l_1)), (1, V.d (D.l b_2 l_3)), (6, V.d (D.i IntKind.i64 n_4))]) [] []) = interp (rk Tryd.prog pol) (
brB (decide (n_4 < 0))
  (Tr.call (Task.call 53 [V.d (D.l b_0 l_1), V.d (D.i IntKind.i64 (IntKind.i64.wrap (0 - n_4)))] []) fun (o_0 : Out) =>
    ift o_0.snd.isEmpty
      (asD o_0.fst fun (d_1 : D) =>
        asL d_1 fun (b_2_1 : Bool) (l_3_1 : List D) =>
          Tr.call
            (Task.at_ 26 0 [true, true, false, false, false, true, true, true]
              (sv 46 [(0, V.d (D.l b_0 l_1)), (1, V.d (D.l b_2 l_3)), (6, V.d (D.i IntKind.i64 n_4)), (7, V.d (D.l b_2_1 l_3_1)), (8, V.d (D.l b_2 l_3))]) [] [])
            Tr.ret))
  (Tr.call (Task.call 53 [V.d (D.l b_2 l_3), V.d (D.i IntKind.i64 n_4)] []) fun (o_4 : Out) =>
    ift o_4.snd.isEmpty
      (asD o_4.fst fun (d_5 : D) =>
        asL d_5 fun (b_6 : Bool) (l_7 : List D) =>
          Tr.call
            (Task.at_ 26 0 [true, true, false, false, false, true, true, true]
              (sv 46 [(0, V.d (D.l b_0 l_1)), (1, V.d (D.l b_2 l_3)), (6, V.d (D.i IntKind.i64 n_4)), (7, V.d (D.l b_0 l_1)), (8, V.d (D.l b_6 l_7))]) [] [])
            Tr.ret))) :=
  rk_of (by kernel_rfl)
theorem f33_at15 (n_0 : Int) (n_1 : Int) :
    rk Tryd.prog pol (Task.at_ 33 0 [true, true, true] (sv 34 [(4, V.d (D.i IntKind.u64 n_0)), (5, V.d (D.i IntKind.i64 n_1))]) [] []) = interp (rk Tryd.prog pol) (
brB (decide (n_1 < 0))
  (Tr.call (Task.call 23 [V.d (D.i IntKind.u64 n_0)] []) fun (o_0 : Out) =>
    ift o_0.snd.isEmpty
      (asD o_0.fst fun (d_1 : D) =>
        asL d_1 fun (b_2 : Bool) (l_3 : List D) =>
          Tr.call (Task.call 23 [V.d (D.i IntKind.u64 1)] []) fun (o_4 : Out) =>
            ift o_4.snd.isEmpty
              (asD o_4.fst fun (d_5 : D) =>
                asL d_5 fun (b_6 : Bool) (l_7 : List D) =>
                  Tr.call (Task.call 53 [V.d (D.l b_6 l_7), V.d (D.i IntKind.i64 (IntKind.i64.wrap (0 - n_1)))] []) fun (o_8 : Out) =>
                    ift o_8.snd.isEmpty (asD o_8.fst fun (d_9 : D) => asL d_9 fun (b_10 : Bool) (l_11 : List D) => Tr.ret (V.t [V.d (D.l b_2 l_3), V.d (D.l b_10 l_11)], [])))))
  (Tr.call (Task.call 23 [V.d (D.i IntKind.u64 n_0)] []) fun (o_12 : Out) =>
    ift o_12.snd.isEmpty
      (asD o_12.fst fun (d_13 : D) =>
        asL d_13 fun (b_14 : Bool) (l_15 : List D) =>
          Tr.call (Task.call 53 [V.d (D.l b_14 l_15), V.d (D.i IntKind.i64 n_1)] []) fun (o_16 : Out) =>
            ift o_16.snd.isEmpty
              (asD o_16.fst fun (d_17 : D) =>
                asL d_17 fun (b_18 : Bool) (l_19 : List D) =>
                  Tr.call (Task.call 23 [V.d (D.i IntKind.u64 1)] []) fun (o_20 : Out) =>
                    ift o_20.snd.isEmpty (asD o_20.fst fun (d_21 : D) => asL d_21 fun (b_22 : Bool) (l_23 : List D) => Tr.ret (V.t [V.d (D.l b_18 l_19), V.d (D.l b_22 l_23)], [])))))) :=
  rk_of (by kernel_rfl)
theorem f17_at15 (n_0 : Int) (n_1 : Int) :
    rk Tryd.prog pol (Task.at_ 17 0 [true, true, true] (sv 24 [(0, V.d (D.i IntKind.i64 n_0)), (3, V.d (D.i IntKind.u64 n_1))]) [] []) = interp (rk Tryd.prog pol) (
Tr.call (Task.call 23 [V.d (D.i IntKind.u64 n_1)] []) fun (o_0 : Out) =>
  ift o_0.snd.isEmpty
    (asD o_0.fst fun (d_1 : D) =>
      asL d_1 fun (b_2 : Bool) (l_3 : List D) =>
        Tr.call (Task.call 23 [V.d (D.i IntKind.u64 1)] []) fun (o_4 : Out) =>
          ift o_4.snd.isEmpty
            (asD o_4.fst fun (d_5 : D) =>
              asL d_5 fun (b_6 : Bool) (l_7 : List D) =>
                Tr.call (Task.call 26 [V.d (D.l b_2 l_3), V.d (D.l b_6 l_7)] []) fun (o_8 : Out) =>
                  ift o_8.snd.isEmpty
                    (unT o_8.fst fun (l_9 : List V) =>
                      ift (l_9.length == 2)
                        (asD (l_9.getD 0 (V.d (D.b false))) fun (d_10 : D) =>
                          asI IntKind.u64 d_10 fun (n_11 : Int) =>
                            asD (l_9.getD 1 (V.d (D.b false))) fun (d_12 : D) =>
                              asB d_12 fun (b_13 : Bool) =>
                                brB (decide (n_0 < 0))
                                  (Tr.ret (V.d (D.i IntKind.u64 (IntKind.u64.wrap (↑(BitVec.ofInt IntKind.u64.bits n_11 ||| BitVec.ofInt IntKind.u64.bits 9223372036854775808).toNat : Int))), []))
                                  (Tr.ret (V.d (D.i IntKind.u64 n_11), []))))))) :=
  rk_of (by kernel_rfl)
theorem f13_at511 (b_0 : Bool) (l_1 : List D) (b_2 : Bool) (l_3 : List D) (d_4 : D) (d_5 : D) (d_6 : D) (d_7 : D) (d_8 : D) :
    rk Tryd.prog pol (Task.at_ 13 0 [true, true, true, true, true, true, true, true] (sv 68 [(4, V.p 0 0), (7, V.d (D.l b_0 l_1)), (8, V.d (D.l b_2 l_3))]) [] [Ob.cells [V.d d_4, V.d d_5, V.d d_6, V.d d_7, V.d d_8] []]) = interp (rk Tryd.prog pol) (
Tr.call (Task.call 26 [V.d (D.l b_0 l_1), V.d (D.l b_2 l_3)] []) fun (o_0 : Out) =>
  ift o_0.snd.isEmpty
    (unT o_0.fst fun (l_1 : List V) =>
      ift (l_1.length == 2)
        (asD (l_1.getD 0 (V.d (D.b false))) fun (d_2 : D) =>
          asI IntKind.u64 d_2 fun (n_3 : Int) =>
            asD (l_1.getD 1 (V.d (D.b false))) fun (d_4_1 : D) =>
              asB d_4_1 fun (b_5 : Bool) =>
                brB (!b_5) (Tr.ret (V.t [V.d (D.i IntKind.u64 0), V.d (D.i IntKind.i64 5)], []))
                  (asB d_4 fun (b_6 : Bool) =>
                    brB b_6
                      (Tr.call
                        (Task.at_ 13 0 [true, true, true, true, true, true, true, true, true, true, true]
                          (sv 68 [(9, V.d (D.i IntKind.u64 (IntKind.u64.wrap (↑(BitVec.ofInt IntKind.u64.bits n_3 ||| BitVec.ofInt IntKind.u64.bits 9223372036854775808).toNat : Int))))]) [] [])
                        Tr.ret)
                      (Tr.call (Task.at_ 13 0 [true, true, true, true, true, true, true, true, true, true, true] (sv 68 [(9, V.d (D.i IntKind.u64 n_3))]) [] []) Tr.ret))))) :=
  rk_of (by kernel_rfl)
theorem f15_at31 (n_0 : Int) (l_1 : List UInt8) :
    rk Tryd.prog pol (Task.at_ 15 0 [true, true, true, true] (sv 76 [(0, V.d (D.i IntKind.u64 n_0)), (3, V.d (D.s l_1))]) [] []) = interp (rk Tryd.prog pol) (
brB (n_0 == 0) (ift (decide (l_1.length + 5 < 4611686018427387904)) (Tr.ret (V.d (D.s (l_1 ++ [48, 46, 48, 101, 48])), [])))
  (Tr.call (Task.call 33 [V.d (D.i IntKind.u64 n_0)] []) fun (o_0 : Out) =>
    ift o_0.snd.isEmpty
      (unT o_0.fst fun (l_1_1 : List V) =>
        ift (l_1_1.length == 2)
          (asD (l_1_1.getD 0 (V.d (D.b false))) fun (d_2 : D) =>
            asL d_2 fun (b_3 : Bool) (l_4 : List D) =>
              asD (l_1_1.getD 1 (V.d (D.b false))) fun (d_5 : D) =>
                asL d_5 fun (b_6 : Bool) (l_7 : List D) =>
                  Tr.call (Task.call 34 [V.d (D.l b_3 l_4)] []) fun (o_8 : Out) =>
                    ift o_8.snd.isEmpty
                      (asD o_8.fst fun (d_9 : D) =>
                        asI IntKind.i64 d_9 fun (n_10 : Int) =>
                          Tr.call (Task.call 34 [V.d (D.l b_6 l_7)] []) fun (o_11 : Out) =>
                            ift o_11.snd.isEmpty
                              (asD o_11.fst fun (d_12 : D) =>
                                asI IntKind.i64 d_12 fun (n_13 : Int) =>
                                  Tr.call
                                    (Task.at_ 15 0 [false, false, true, true, true, true, true, true, true]
                                      (sv 76
                                        [(3, V.d (D.s l_1)), (4, V.d (D.l b_3 l_4)), (5, V.d (D.l b_6 l_7)),
                                          (6, V.d (D.i IntKind.i64 (IntKind.i64.wrap (IntKind.i64.wrap ((IntKind.i64.wrap (IntKind.i64.wrap (n_10 - n_13) * 30103)).tdiv 100000) + 1))))])
                                      [] [])
                                    Tr.ret)))))) :=
  rk_of (by kernel_rfl)
theorem f48_at195 (l_0 : List UInt8) (n_1 : Int) (b_2 : Bool) :
    rk Tryd.prog pol (Task.at_ 48 0 [true, false, false, false, false, true, true] (sv 29 [(0, V.d (D.s l_0)), (4, V.d (D.i IntKind.i64 n_1)), (20, V.d (D.b b_2))]) [] []) = interp (rk Tryd.prog pol) (
brB b_2 (Tr.call (Task.at_ 48 0 [false, false, true, true] (sv 29 [(0, V.d (D.s l_0)), (4, V.d (D.i IntKind.i64 (IntKind.i64.wrap (n_1 + 1))))]) [] []) Tr.ret)
  (ift (decide (0 ≤ n_1 ∧ n_1 ≤ (↑l_0.length : Int)))
    (ift (decide (0 ≤ n_1 ∧ n_1 ≤ (↑l_0.length : Int)))
      (Tr.ret (V.t [V.d (D.s (List.take (n_1.toNat - 0) (List.drop 0 l_0))), V.d (D.s (List.take (l_0.length - n_1.toNat) (List.drop n_1.toNat l_0)))], []))))) :=
  rk_of (by kernel_rfl)
theorem f20_at111 (l_0 : List UInt8) (b_1 : Bool) (b_2 : Bool) (l_3 : List UInt8) (l_4 : List UInt8) (b_5 : Bool) (l_6 : List UInt8) :
    rk Tryd.prog pol (Task.at_ 20 0 [true, false, true, true, true, true] (sv 76 [(0, V.d (D.s l_0)), (2, V.p 0 0), (41, V.d (D.b b_1))]) []
  [Ob.cells [V.d (D.b b_2), V.d (D.s l_3), V.d (D.s l_4), V.d (D.b b_5), V.d (D.s l_6)] []]) = interp (rk Tryd.prog pol) (
brB b_1 (Tr.ret (V.t [V.d (D.g [D.b b_2, D.s l_3, D.s l_4, D.b b_5, D.s l_6]), V.d (D.b false)], []))
  (brB (l_0 == []) (Tr.ret (V.t [V.d (D.g [D.b b_2, D.s l_3, D.s l_4, D.b b_5, D.s l_6]), V.d (D.b true)], []))
    (ob (getI l_0 0) fun (c_0 : UInt8) =>
      brB ((↑c_0.toNat : Int) != 101)
        (ob (getI l_0 0) fun (c_1 : UInt8) =>
          Tr.call
            (Task.at_ 20 0 [true, false, true, true, true, true, true, true] (sv 76 [(0, V.d (D.s l_0)), (2, V.p 0 0), (53, V.d (D.b ((↑c_1.toNat : Int) != 69)))]) []
              [Ob.cells [V.d (D.b b_2), V.d (D.s l_3), V.d (D.s l_4), V.d (D.b b_5), V.d (D.s l_6)] []])
            Tr.ret)
        (Tr.call
          (Task.at_ 20 0 [true, false, true, true, true, true, true, true] (sv 76 [(0, V.d (D.s l_0)), (2, V.p 0 0), (53, V.d (D.b false))]) []
            [Ob.cells [V.d (D.b b_2), V.d (D.s l_3), V.d (D.s l_4), V.d (D.b b_5), V.d (D.s l_6)] []])
          Tr.ret)))) :=
  rk_of (by kernel_rfl)
theorem f22_at43_1 (l_0 : List UInt8) (b_1 : Bool) (l_2 : List D) (l_3 : List UInt8) (m_4 : Nat) :
    rk Tryd.prog pol (Task.at_ 22 0 [false, true, false, true, true] (sv 21 [(0, V.d (D.s l_0)), (3, V.d (D.l b_1 l_2)), (6, V.it 0)]) [] [Ob.iter l_3 m_4]) = interp (rk Tryd.prog pol) (
brB (decide (m_4 < l_3.length))
  (Tr.call (Task.call 23 [V.d (D.i IntKind.u64 10)] []) fun (o_0 : Out) =>
    ift o_0.snd.isEmpty
      (asD o_0.fst fun (d_1 : D) =>
        asL d_1 fun (b_2 : Bool) (l_3_1 : List D) =>
          Tr.call (Task.call 24 [V.d (D.l b_1 l_2), V.d (D.l b_2 l_3_1)] []) fun (o_4 : Out) =>
            ift o_4.snd.isEmpty
              (asD o_4.fst fun (d_5 : D) =>
                asL d_5 fun (b_6 : Bool) (l_7 : List D) =>
                  ob (getI l_0 (↑m_4 : Int)) fun (c_8 : UInt8) =>
                    Tr.call (Task.call 23 [V.d (D.i IntKind.u64 (IntKind.u64.wrap (IntKind.u8.wrap ((↑c_8.toNat : Int) - 48))))] []) fun (o_9 : Out) =>
                      ift o_9.snd.isEmpty
                        (asD o_9.fst fun (d_10 : D) =>
                          asL d_10 fun (b_11 : Bool) (l_12 : List D) =>
                            Tr.call (Task.call 50 [V.d (D.l b_6 l_7), V.d (D.l b_11 l_12)] []) fun (o_13 : Out) =>
                              ift o_13.snd.isEmpty
                                (asD o_13.fst fun (d_14 : D) =>
                                  asL d_14 fun (b_15 : Bool) (l_16 : List D) =>
                                    Tr.call
                                      (Task.at_ 22 0 [false, true, false, true, true] (sv 21 [(0, V.d (D.s l_0)), (3, V.d (D.l b_15 l_16)), (6, V.it 0)]) []
                                        [Ob.iter l_3 (m_4 + (Utf8.decode (ByteArray.mk l_3.toArray) m_4).snd)])
                                      Tr.ret)))))
  (Tr.ret (V.d (D.l b_1 l_2), []))) :=
  rk_of (by kernel_rfl)
theorem f21_at175_1 (l_0 : List UInt8) (n_1 : Int) (l_2 : List UInt8) (m_3 : Nat) (b_4 : Bool) (l_5 : List UInt8) (l_6 : List UInt8) (b_7 : Bool) (l_8 : List UInt8) :
    rk Tryd.prog pol (Task.at_ 21 0 [false, true, false, true, true, true, true] (sv 37 [(1, V.p 0 0), (4, V.d (D.s l_0)), (5, V.d (D.i IntKind.i64 n_1)), (14, V.it 1)]) []
  [Ob.iter l_2 m_3, Ob.cells [V.d (D.b b_4), V.d (D.s l_5), V.d (D.s l_6), V.d (D.b b_7), V.d (D.s l_8)] []]) = interp (rk Tryd.prog pol) (
brB (decide (m_3 < l_2.length))
  (ob (getI l_0 (↑m_3 : Int)) fun (c_0 : UInt8) =>
    Tr.call
      (Task.at_ 21 0 [false, true, false, true, true, true, true]
        (sv 37
          [(1, V.p 0 0), (4, V.d (D.s l_0)), (5, V.d (D.i IntKind.i64 (IntKind.i64.wrap (IntKind.i64.wrap (10 * n_1) + IntKind.i64.wrap (IntKind.u8.wrap ((↑c_0.toNat : Int) - 48)))))), (14, V.it 1)])
        [] [Ob.iter l_2 (m_3 + (Utf8.decode (ByteArray.mk l_2.toArray) m_3).snd), Ob.cells [V.d (D.b b_4), V.d (D.s l_5), V.d (D.s l_6), V.d (D.b b_7), V.d (D.s l_8)] []])
      Tr.ret)
  (brB b_7 (Tr.call (Task.at_ 21 0 [true, true, true, true, true, true] (sv 37 [(5, V.d (D.i IntKind.i64 (IntKind.i64.wrap (0 - n_1))))]) [] []) Tr.ret)
    (Tr.call (Task.at_ 21 0 [true, true, true, true, true, true] (sv 37 [(5, V.d (D.i IntKind.i64 n_1))]) [] []) Tr.ret))) :=
  rk_of (by kernel_rfl)
theorem f21_at127 (n_0 : Int) :
    rk Tryd.prog pol (Task.at_ 21 0 [true, true, true, true, true, true] (sv 37 [(5, V.d (D.i IntKind.i64 n_0))]) [] []) = interp (rk Tryd.prog pol) (
brB (decide (n_0 ≥ -400)) (Tr.ret (V.t [V.d (D.i IntKind.i64 n_0), V.d (D.b (decide (n_0 ≤ 400)))], [])) (Tr.ret (V.t [V.d (D.i IntKind.i64 n_0), V.d (D.b false)], []))) :=
  rk_of (by kernel_rfl)
theorem f26_at455 (b_0 : Bool) (l_1 : List D) (b_2 : Bool) (l_3 : List D) (n_4 : Int) (b_5 : Bool) (l_6 : List D) (b_7 : Bool) (l_8 : List D) :
    rk Tryd.prog pol (Task.at_ 26 0 [true, true, false, false, false, true, true, true]
  (sv 46 [(0, V.d (D.l b_0 l_1)), (1, V.d (D.l b_2 l_3)), (6, V.d (D.i IntKind.i64 n_4)), (7, V.d (D.l b_5 l_6)), (8, V.d (D.l b_7 l_8))]) [] []) = interp (rk Tryd.prog pol) (
Tr.call (Task.call 54 [V.d (D.l b_5 l_6), V.d (D.l b_7 l_8)] []) fun (o_0 : Out) =>
  ift o_0.snd.isEmpty
    (asD o_0.fst fun (d_1 : D) =>
      asL d_1 fun (b_2_1 : Bool) (l_3_1 : List D) =>
        Tr.call (Task.call 34 [V.d (D.l b_2_1 l_3_1)] []) fun (o_4 : Out) =>
          ift o_4.snd.isEmpty
            (asD o_4.fst fun (d_5 : D) =>
              asI IntKind.i64 d_5 fun (n_6 : Int) =>
                brB (decide (n_6 ≤ 53))
                  (Tr.call (Task.call 56 [V.d (D.l b_2_1 l_3_1)] []) fun (o_7 : Out) =>
                    ift o_7.snd.isEmpty
                      (asD o_7.fst fun (d_8 : D) =>
                        asI IntKind.u64 d_8 fun (n_9 : Int) =>
                          Tr.call (Task.call 55 [V.d (D.i IntKind.u64 n_9), V.d (D.i IntKind.i64 n_4)] []) fun (o_10 : Out) =>
                            ift o_10.snd.isEmpty
                              (unT o_10.fst fun (l_11 : List V) =>
                                ift (l_11.length == 2)
                                  (asD (l_11.getD 0 (V.d (D.b false))) fun (d_12 : D) =>
                                    asI IntKind.u64 d_12 fun (n_13 : Int) =>
                                      asD (l_11.getD 1 (V.d (D.b false))) fun (d_14 : D) => asB d_14 fun (b_15 : Bool) => Tr.ret (V.t [V.d (D.i IntKind.u64 n_13), V.d (D.b b_15)], [])))))
                  (Tr.call (Task.at_ 26 0 [false, true, true, true] (sv 46 [(0, V.d (D.l b_0 l_1)), (1, V.d (D.l b_2 l_3)), (6, V.d (D.i IntKind.i64 (IntKind.i64.wrap (n_4 + 1))))]) [] []) Tr.ret)))) :=
  rk_of (by kernel_rfl)
theorem f13_at4095 (n_0 : Int) :
    rk Tryd.prog pol (Task.at_ 13 0 [true, true, true, true, true, true, true, true, true, true, true] (sv 68 [(9, V.d (D.i IntKind.u64 n_0))]) [] []) = interp (rk Tryd.prog pol) (
Tr.ret (V.t [V.d (D.i IntKind.u64 n_0), V.d (D.i IntKind.i64 0)], [])) :=
  rk_of (by kernel_rfl)
theorem f15_at639 (l_0 : List UInt8) (b_1 : Bool) (l_2 : List D) (b_3 : Bool) (l_4 : List D) (n_5 : Int) :
    rk Tryd.prog pol (Task.at_ 15 0 [false, false, true, true, true, true, true, true, true] (sv 76 [(3, V.d (D.s l_0)), (4, V.d (D.l b_1 l_2)), (5, V.d (D.l b_3 l_4)), (6, V.d (D.i IntKind.i64 n_5))]) [] []) = interp (rk Tryd.prog pol) (
Tr.call (Task.call 35 [V.d (D.l b_1 l_2), V.d (D.l b_3 l_4), V.d (D.i IntKind.i64 n_5)] []) fun (o_0 : Out) =>
  ift o_0.snd.isEmpty
    (asD o_0.fst fun (d_1 : D) =>
      asB d_1 fun (b_2 : Bool) =>
        brB b_2
          (Tr.call
            (Task.at_ 15 0 [false, false, true, true, true, true, true, true, true]
              (sv 76 [(3, V.d (D.s l_0)), (4, V.d (D.l b_1 l_2)), (5, V.d (D.l b_3 l_4)), (6, V.d (D.i IntKind.i64 (IntKind.i64.wrap (n_5 - 1))))]) [] [])
            Tr.ret)
          (Tr.call (Task.call 37 [V.d (D.l b_1 l_2), V.d (D.l b_3 l_4), V.d (D.i IntKind.i64 (IntKind.i64.wrap (IntKind.i64.wrap (n_5 - 17) + 1)))] []) fun (o_3 : Out) =>
            ift o_3.snd.isEmpty
              (asD o_3.fst fun (d_4 : D) =>
                asL d_4 fun (b_5 : Bool) (l_6 : List D) =>
                  Tr.call (Task.call 36 [V.d (D.l b_5 l_6)] []) fun (o_7 : Out) =>
                    ift o_7.snd.isEmpty
                      (asD o_7.fst fun (d_8 : D) =>
                        asS d_8 fun (l_9 : List UInt8) =>
                          brB (decide ((↑l_9.length : Int) > 17))
                            (Tr.call (Task.call 37 [V.d (D.l b_1 l_2), V.d (D.l b_3 l_4), V.d (D.i IntKind.i64 (IntKind.i64.wrap (IntKind.i64.wrap (IntKind.i64.wrap (n_5 + 1) - 17) + 1)))] [])
                              fun (o_10 : Out) =>
                              ift o_10.snd.isEmpty
                                (asD o_10.fst fun (d_11 : D) =>
                                  asL d_11 fun (b_12 : Bool) (l_13 : List D) =>
                                    Tr.call (Task.call 36 [V.d (D.l b_12 l_13)] []) fun (o_14 : Out) =>
                                      ift o_14.snd.isEmpty
                                        (asD o_14.fst fun (d_15 : D) =>
                                          asS d_15 fun (l_16 : List UInt8) =>
                                            Tr.call
                                              (Task.at_ 15 0 [true, true, true, true, true, true, true, true, true, true]
                                                (sv 76 [(3, V.d (D.s l_0)), (6, V.d (D.i IntKind.i64 (IntKind.i64.wrap (n_5 + 1)))), (7, V.d (D.s l_16))]) [] [])
                                              Tr.ret)))
                            (Tr.call (Task.at_ 15 0 [true, true, true, true, true, true, true, true, true, true] (sv 76 [(3, V.d (D.s l_0)), (6, V.d (D.i IntKind.i64 n_5)), (7, V.d (D.s l_9))]) [] [])
                              Tr.ret)))))) :=
  rk_of (by kernel_rfl)
theorem f20_at447 (l_0 : List UInt8) (b_1 : Bool) (b_2 : Bool) (l_3 : List UInt8) (l_4 : List UInt8) (b_5 : Bool) (l_6 : List UInt8) :
    rk Tryd.prog pol (Task.at_ 20 0 [true, false, true, true, true, true, true, true] (sv 76 [(0, V.d (D.s l_0)), (2, V.p 0 0), (53, V.d (D.b b_1))]) []
  [Ob.cells [V.d (D.b b_2), V.d (D.s l_3), V.d (D.s l_4), V.d (D.b b_5), V.d (D.s l_6)] []]) = interp (rk Tryd.prog pol) (
brB b_1 (Tr.ret (V.t [V.d (D.g [D.b b_2, D.s l_3, D.s l_4, D.b b_5, D.s l_6]), V.d (D.b false)], []))
  (ift (decide ((0 : Int) ≤ 1 ∧ 1 ≤ (↑l_0.length : Int)))
    (Tr.call (Task.call 47 [V.d (D.s (List.take (l_0.length - 1) (List.drop 1 l_0)))] []) fun (o_0 : Out) =>
      ift o_0.snd.isEmpty
        (unT o_0.fst fun (l_1 : List V) =>
          ift (l_1.length == 2)
            (asD (l_1.getD 0 (V.d (D.b false))) fun (d_2 : D) =>
              asB d_2 fun (b_3 : Bool) =>
                asD (l_1.getD 1 (V.d (D.b false))) fun (d_4 : D) =>
                  asS d_4 fun (l_5 : List UInt8) =>
                    Tr.call (Task.call 48 [V.d (D.s l_5)] []) fun (o_6 : Out) =>
                      ift o_6.snd.isEmpty
                        (unT o_6.fst fun (l_7 : List V) =>
                          ift (l_7.length == 2)
                            (asD (l_7.getD 0 (V.d (D.b false))) fun (d_8 : D) =>
                              asS d_8 fun (l_9 : List UInt8) =>
                                asD (l_7.getD 1 (V.d (D.b false))) fun (d_10 : D) =>
                                  asS d_10 fun (l_11 : List UInt8) =>
                                    brB (!l_9 == []) (Tr.ret (V.t [V.d (D.g [D.b b_2, D.s l_3, D.s l_4, D.b b_3, D.s l_9]), V.d (D.b (l_11 == []))], []))
                                      (Tr.ret (V.t [V.d (D.g [D.b b_2, D.s l_3, D.s l_4, D.b b_3, D.s l_9]), V.d (D.b false)], []))))))))) :=
  rk_of (by kernel_rfl)
theorem f15_at2047 (l_0 : List UInt8) (n_1 : Int) (l_2 : List UInt8) :
    rk Tryd.prog pol (Task.at_ 15 0 [true, true, true, true, true, true, true, true, true, true] (sv 76 [(3, V.d (D.s l_0)), (6, V.d (D.i IntKind.i64 n_1)), (7, V.d (D.s l_2))]) [] []) = interp (rk Tryd.prog pol) (
ift (decide ((0 : Int) ≤ 1 ∧ 1 ≤ (↑l_2.length : Int)))
  (Tr.call (Task.call 38 [V.d (D.s (List.take (l_2.length - 1) (List.drop 1 l_2))), V.d (D.s [48])] []) fun (o_0 : Out) =>
    ift o_0.snd.isEmpty
      (asD o_0.fst fun (d_1 : D) =>
        asS d_1 fun (l_2_1 : List UInt8) =>
          brB (l_2_1 == [])
            (Tr.call
              (Task.at_ 15 0 [true, true, true, true, true, true, true, true, true, true, true, true]
                (sv 76 [(3, V.d (D.s l_0)), (6, V.d (D.i IntKind.i64 n_1)), (7, V.d (D.s l_2)), (8, V.d (D.s [48]))]) [] [])
              Tr.ret)
            (Tr.call
              (Task.at_ 15 0 [true, true, true, true, true, true, true, true, true, true, true, true]
                (sv 76 [(3, V.d (D.s l_0)), (6, V.d (D.i IntKind.i64 n_1)), (7, V.d (D.s l_2)), (8, V.d (D.s l_2_1))]) [] [])
              Tr.ret)))) :=
  rk_of (by kernel_rfl)
theorem f15_at8191 (l_0 : List UInt8) (n_1 : Int) (l_2 : List UInt8) (l_3 : List UInt8) :
    rk Tryd.prog pol (Task.at_ 15 0 [true, true, true, true, true, true, true, true, true, true, true, true] (sv 76 [(3, V.d (D.s l_0)), (6, V.d (D.i IntKind.i64 n_1)), (7, V.d (D.s l_2)), (8, V.d (D.s l_3))]) [] []) = interp (rk Tryd.prog pol) (
ift (decide ((0 : Int) ≤ 1 ∧ 1 ≤ (↑l_2.length : Int)))
  (ift (decide (l_0.length + (List.take 1 (List.drop 0 l_2)).length < 4611686018427387904))
    (ift (decide ((l_0 ++ List.take 1 (List.drop 0 l_2)).length + 1 < 4611686018427387904))
      (ift (decide ((l_0 ++ List.take 1 (List.drop 0 l_2) ++ [46]).length + l_3.length < 4611686018427387904))
        (ift (decide ((l_0 ++ List.take 1 (List.drop 0 l_2) ++ [46] ++ l_3).length + 1 < 4611686018427387904))
          (Tr.call (Task.call 39 [V.d (D.i IntKind.i64 n_1)] []) fun (o_0 : Out) =>
            ift o_0.snd.isEmpty
              (asD o_0.fst fun (d_1 : D) =>
                asS d_1 fun (l_2_1 : List UInt8) =>
                  ift (decide ((l_0 ++ List.take 1 (List.drop 0 l_2) ++ [46] ++ l_3 ++ [101]).length + l_2_1.length < 4611686018427387904))
                    (Tr.ret (V.d (D.s (l_0 ++ List.take 1 (List.drop 0 l_2) ++ [46] ++ l_3 ++ [101] ++ l_2_1)), []))))))))) :=
  rk_of (by kernel_rfl)
end Go.Dn.Dec
namespace Go.Dn.Dec
open Go.Proofs
theorem f46 (n : Int) :
    rk Tryd.prog pol (Task.call 46 [V.d (D.i IntKind.u64 n)] []) = interp (rk Tryd.prog pol) (
Tr.call (Task.at_ 46 0 [false, true, true] (sv 17 [(0, V.d (D.i IntKind.u64 n)), (3, V.d (D.s []))]) [] []) Tr.ret) :=
  rk_of (by kernel_rfl)
theorem f19 (n : Int) :
    rk Tryd.prog pol (Task.call 19 [V.d (D.i IntKind.i64 n)] []) = interp (rk Tryd.prog pol) (
brB (decide (n < 0))
  (Tr.call (Task.call 46 [V.d (D.i IntKind.u64 (IntKind.u64.wrap (IntKind.u64.wrap (IntKind.i64.wrap (0 - IntKind.i64.wrap (n + 1))) + 1)))] []) fun (o_0 : Out) =>
    ift o_0.snd.isEmpty (asD o_0.fst fun (d_1 : D) => asS d_1 fun (l_2 : List UInt8) => ift (decide (1 + l_2.length < 4611686018427387904)) (Tr.ret (V.d (D.s ([45] ++ l_2)), []))))
  (Tr.call (Task.call 46 [V.d (D.i IntKind.u64 (IntKind.u64.wrap n))] []) fun (o_3 : Out) =>
    ift o_3.snd.isEmpty (asD o_3.fst fun (d_4 : D) => asS d_4 fun (l_5 : List UInt8) => Tr.ret (V.d (D.s l_5), [])))) :=
  rk_of (by kernel_rfl)
theorem f12 :
    rk Tryd.prog pol (Task.call 12 [] []) = interp (rk Tryd.prog pol) (
Tr.call (Task.call 13 [V.d (D.s [48, 46, 49])] []) fun (o_0 : Out) =>
  ift o_0.snd.isEmpty
    (unT o_0.fst fun (l_1 : List V) =>
      ift (l_1.length == 2)
        (asD (l_1.getD 0 (V.d (D.b false))) fun (d_2 : D) =>
          asI IntKind.u64 d_2 fun (n_3 : Int) =>
            asD (l_1.getD 1 (V.d (D.b false))) fun (d_4 : D) =>
              asI IntKind.i64 d_4 fun (n_5 : Int) =>
                Tr.call (Task.call 13 [V.d (D.s [46])] []) fun (o_6 : Out) =>
                  ift o_6.snd.isEmpty
                    (unT o_6.fst fun (l_7 : List V) =>
                      ift (l_7.length == 2)
                        (asD (l_7.getD 0 (V.d (D.b false))) fun (d_8 : D) =>
                          asI IntKind.u64 d_8 fun (n_9 : Int) =>
                            asD (l_7.getD 1 (V.d (D.b false))) fun (d_10 : D) =>
                              asI IntKind.i64 d_10 fun (n_11 : Int) =>
                                brB (n_5 == 0)
                                  (brB (n_3 == 4591870180066957722)
                                    (brB (n_11 == 2)
                                      (Tr.call (Task.call 15 [V.d (D.i IntKind.u64 4607182418800017408)] []) fun (o_12 : Out) =>
                                        ift o_12.snd.isEmpty
                                          (asD o_12.fst fun (d_13 : D) =>
                                            asS d_13 fun (l_14 : List UInt8) =>
                                              brB (l_14 == [49, 46, 48, 101, 48])
                                                (Tr.call (Task.call 17 [V.d (D.i IntKind.i64 1)] []) fun (o_15 : Out) =>
                                                  ift o_15.snd.isEmpty (asD o_15.fst fun (d_16 : D) => asI IntKind.u64 d_16 fun (n_17 : Int) => Tr.ret (V.d (D.b (n_17 == 4607182418800017408)), [])))
                                                (Tr.ret (V.d (D.b false), []))))
                                      (Tr.ret (V.d (D.b false), [])))
                                    (Tr.ret (V.d (D.b false), [])))
                                  (Tr.ret (V.d (D.b false), []))))))) :=
  rk_of (by kernel_rfl)
theorem f9 :
    rk Tryd.prog pol (Task.call 9 [] []) = interp (rk Tryd.prog pol) (
Tr.call (Task.call 12 [] []) fun (o_0 : Out) =>
  ift o_0.snd.isEmpty
    (asD o_0.fst fun (d_1 : D) =>
      asB d_1 fun (b_2 : Bool) =>
        brB (!b_2) (Tr.ret (V.d (D.b false), []))
          (Tr.call
            (Task.at_ 9 0 [false, true, false, true, true, true, true, true]
              (sv 62
                [(1,
                    V.d
                      (D.l true
                        [D.s [48], D.s [45, 48], D.s [49], D.s [46, 53], D.s [49, 46], D.s [], D.s [45], D.s [101, 53], D.s [49, 101], D.s [49, 101, 43], D.s [49, 101, 52, 48, 48],
                          D.s [49, 101, 52, 48, 49], D.s [49, 101, 45, 52, 48, 49], D.s [49, 46, 55, 57, 55, 54, 57, 51, 49, 51, 52, 56, 54, 50, 51, 49, 53, 55, 101, 51, 48, 56],
                          D.s [49, 46, 55, 57, 55, 54, 57, 51, 49, 51, 52, 56, 54, 50, 51, 49, 53, 57, 101, 51, 48, 56], D.s [52, 46, 57, 101, 45, 51, 50, 52], D.s [50, 46, 52, 101, 45, 51, 50, 52],
                          D.s [50, 46, 53, 101, 45, 51, 50, 52], D.s [50, 46, 50, 50, 53, 48, 55, 51, 56, 53, 56, 53, 48, 55, 50, 48, 49, 52, 101, 45, 51, 48, 56],
                          D.s [50, 46, 50, 50, 53, 48, 55, 51, 56, 53, 56, 53, 48, 55, 50, 48, 49, 49, 101, 45, 51, 48, 56], D.s [57, 48, 48, 55, 49, 57, 57, 50, 53, 52, 55, 52, 48, 57, 57, 51],
                          D.s [57, 48, 48, 55, 49, 57, 57, 50, 53, 52, 55, 52, 48, 57, 57, 50, 46, 57, 57, 57, 57], D.s [49, 32], D.s [48, 120, 49], D.s [49, 101, 51, 48, 57], D.s [49, 46, 101, 53],
                          D.s [48, 48, 48, 48, 49, 101, 45, 52, 48, 48], D.s [53, 101, 45, 51, 50, 52]])),
                  (2,
                    V.d
                      (D.l true
                        [D.i IntKind.u64 0, D.i IntKind.u64 9223372036854775808, D.i IntKind.u64 4607182418800017408, D.i IntKind.u64 4602678819172646912, D.i IntKind.u64 0, D.i IntKind.u64 0,
                          D.i IntKind.u64 0, D.i IntKind.u64 0, D.i IntKind.u64 0, D.i IntKind.u64 0, D.i IntKind.u64 0, D.i IntKind.u64 0, D.i IntKind.u64 0, D.i IntKind.u64 9218868437227405311,
                          D.i IntKind.u64 0, D.i IntKind.u64 1, D.i IntKind.u64 0, D.i IntKind.u64 1, D.i IntKind.u64 4503599627370496, D.i IntKind.u64 4503599627370495,
                          D.i IntKind.u64 4845873199050653696, D.i IntKind.u64 4845873199050653696, D.i IntKind.u64 0, D.i IntKind.u64 0, D.i IntKind.u64 0, D.i IntKind.u64 0, D.i IntKind.u64 0,
                          D.i IntKind.u64 1])),
                  (3,
                    V.d
                      (D.l true
                        [D.i IntKind.i64 0, D.i IntKind.i64 0, D.i IntKind.i64 0, D.i IntKind.i64 0, D.i IntKind.i64 2, D.i IntKind.i64 2, D.i IntKind.i64 2, D.i IntKind.i64 2, D.i IntKind.i64 2,
                          D.i IntKind.i64 2, D.i IntKind.i64 5, D.i IntKind.i64 5, D.i IntKind.i64 5, D.i IntKind.i64 0, D.i IntKind.i64 5, D.i IntKind.i64 0, D.i IntKind.i64 0, D.i IntKind.i64 0,
                          D.i IntKind.i64 0, D.i IntKind.i64 0, D.i IntKind.i64 0, D.i IntKind.i64 0, D.i IntKind.i64 2, D.i IntKind.i64 2, D.i IntKind.i64 5, D.i IntKind.i64 2, D.i IntKind.i64 0,
                          D.i IntKind.i64 0])),
                  (4, V.d (D.i IntKind.i64 0))])
              [] [])
            Tr.ret))) :=
  rk_of (by kernel_rfl)
theorem f5 (n : Int) :
    rk Tryd.prog pol (Task.call 5 [V.d (D.i IntKind.u64 n)] []) = interp (rk Tryd.prog pol) (
Tr.call (Task.call 12 [] []) fun (o_0 : Out) =>
  ift o_0.snd.isEmpty
    (asD o_0.fst fun (d_1 : D) =>
      asB d_1 fun (b_2 : Bool) =>
        brB (!b_2) (Tr.ret (V.d (D.b false), []))
          (Tr.call (Task.call 15 [V.d (D.i IntKind.u64 n)] []) fun (o_3 : Out) =>
            ift o_3.snd.isEmpty
              (asD o_3.fst fun (d_4 : D) =>
                asS d_4 fun (l_5 : List UInt8) =>
                  brB (IntKind.u64.wrap (↑(BitVec.ofInt IntKind.u64.bits (n.fdiv 4503599627370496) &&& BitVec.ofInt IntKind.u64.bits 2047).toNat : Int) == 2047) (Tr.ret (V.d (D.b (l_5 == [])), []))
                    (Tr.call (Task.call 13 [V.d (D.s l_5)] []) fun (o_6 : Out) =>
                      ift o_6.snd.isEmpty
                        (unT o_6.fst fun (l_7 : List V) =>
                          ift (l_7.length == 2)
                            (asD (l_7.getD 0 (V.d (D.b false))) fun (d_8 : D) =>
                              asI IntKind.u64 d_8 fun (n_9 : Int) =>
                                asD (l_7.getD 1 (V.d (D.b false))) fun (d_10 : D) =>
                                  asI IntKind.i64 d_10 fun (n_11 : Int) => brB (n_11 == 0) (Tr.ret (V.d (D.b (n_9 == n)), [])) (Tr.ret (V.d (D.b false), []))))))))) :=
  rk_of (by kernel_rfl)
theorem f3 (s : List UInt8) :
    rk Tryd.prog pol (Task.call 3 [V.d (D.s s)] []) = interp (rk Tryd.prog pol) (
Tr.call (Task.call 12 [] []) fun (o_0 : Out) =>
  ift o_0.snd.isEmpty
    (asD o_0.fst fun (d_1 : D) =>
      asB d_1 fun (b_2 : Bool) =>
        brB (!b_2) (Tr.ret (V.d (D.b false), []))
          (brB (decide ((↑s.length : Int) > 80)) (Tr.ret (V.d (D.b true), []))
            (Tr.call (Task.call 13 [V.d (D.s s)] []) fun (o_3 : Out) =>
              ift o_3.snd.isEmpty
                (unT o_3.fst fun (l_4 : List V) =>
                  ift (l_4.length == 2)
                    (asD (l_4.getD 0 (V.d (D.b false))) fun (d_5 : D) =>
                      asI IntKind.u64 d_5 fun (n_6 : Int) =>
                        asD (l_4.getD 1 (V.d (D.b false))) fun (d_7 : D) =>
                          asI IntKind.i64 d_7 fun (n_8 : Int) =>
                            Tr.call (Task.call 14 [V.d (D.s s)] []) fun (o_9 : Out) =>
                              ift o_9.snd.isEmpty
                                (unT o_9.fst fun (l_10 : List V) =>
                                  ift (l_10.length == 2)
                                    (asD (l_10.getD 0 (V.d (D.b false))) fun (d_11 : D) =>
                                      asI IntKind.u64 d_11 fun (n_12 : Int) =>
                                        asD (l_10.getD 1 (V.d (D.b false))) fun (d_13 : D) =>
                                          asI IntKind.i64 d_13 fun (n_14 : Int) => brB (n_6 == n_12) (Tr.ret (V.d (D.b (n_8 == n_14)), [])) (Tr.ret (V.d (D.b false), [])))))))))) :=
  rk_of (by kernel_rfl)
theorem f4 (n : Int) (m : Int) :
    rk Tryd.prog pol (Task.call 4 [V.d (D.i IntKind.u64 n), V.d (D.i IntKind.i64 m)] []) = interp (rk Tryd.prog pol) (
Tr.call (Task.call 12 [] []) fun (o_0 : Out) =>
  ift o_0.snd.isEmpty
    (asD o_0.fst fun (d_1 : D) =>
      asB d_1 fun (b_2 : Bool) =>
        brB (!b_2) (Tr.ret (V.d (D.b false), []))
          (Tr.call (Task.call 15 [V.d (D.i IntKind.u64 n)] []) fun (o_3 : Out) =>
            ift o_3.snd.isEmpty
              (asD o_3.fst fun (d_4 : D) =>
                asS d_4 fun (l_5 : List UInt8) =>
                  Tr.call (Task.call 16 [V.d (D.i IntKind.u64 n)] []) fun (o_6 : Out) =>
                    ift o_6.snd.isEmpty
                      (asD o_6.fst fun (d_7 : D) =>
                        asS d_7 fun (l_8 : List UInt8) =>
                          brB (l_5 == l_8)
                            (Tr.call (Task.call 17 [V.d (D.i IntKind.i64 m)] []) fun (o_9 : Out) =>
                              ift o_9.snd.isEmpty
                                (asD o_9.fst fun (d_10 : D) =>
                                  asI IntKind.u64 d_10 fun (n_11 : Int) =>
                                    Tr.call (Task.call 18 [V.d (D.i IntKind.i64 m)] []) fun (o_12 : Out) =>
                                      ift o_12.snd.isEmpty (asD o_12.fst fun (d_13 : D) => asI IntKind.u64 d_13 fun (n_14 : Int) => Tr.ret (V.d (D.b (n_11 == n_14)), []))))
                            (Tr.ret (V.d (D.b false), []))))))) :=
  rk_of (by kernel_rfl)
theorem f6 (a : Int) (b : Int) (e : Int) :
    rk Tryd.prog pol (Task.call 6 [V.d (D.i IntKind.u64 a), V.d (D.i IntKind.u64 b), V.d (D.i IntKind.i16 e)] []) = interp (rk Tryd.prog pol) (
Tr.call (Task.call 12 [] []) fun (o_0 : Out) =>
  ift o_0.snd.isEmpty
    (asD o_0.fst fun (d_1 : D) =>
      asB d_1 fun (b_2 : Bool) =>
        brB (!b_2) (Tr.ret (V.d (D.b false), []))
          (Tr.call (Task.call 19 [V.d (D.i IntKind.i64 (IntKind.i64.wrap (e.tmod 300)))] []) fun (o_3 : Out) =>
            ift o_3.snd.isEmpty
              (asD o_3.fst fun (d_4 : D) =>
                asS d_4 fun (l_5 : List UInt8) =>
                  ift (decide (1 + l_5.length < 4611686018427387904))
                    (Tr.call (Task.call 19 [V.d (D.i IntKind.i64 (IntKind.i64.wrap (a.tmod 1000000000000000000)))] []) fun (o_6 : Out) =>
                      ift o_6.snd.isEmpty
                        (asD o_6.fst fun (d_7 : D) =>
                          asS d_7 fun (l_8 : List UInt8) =>
                            ift (decide (l_8.length + ([101] ++ l_5).length < 4611686018427387904))
                              (Tr.call (Task.call 13 [V.d (D.s (l_8 ++ ([101] ++ l_5)))] []) fun (o_9 : Out) =>
                                ift o_9.snd.isEmpty
                                  (unT o_9.fst fun (l_10 : List V) =>
                                    ift (l_10.length == 2)
                                      (asD (l_10.getD 0 (V.d (D.b false))) fun (d_11 : D) =>
                                        asI IntKind.u64 d_11 fun (n_12 : Int) =>
                                          asD (l_10.getD 1 (V.d (D.b false))) fun (d_13 : D) =>
                                            asI IntKind.i64 d_13 fun (n_14 : Int) =>
                                              Tr.call (Task.call 19 [V.d (D.i IntKind.i64 (IntKind.i64.wrap (b.tmod 1000000000000000000)))] []) fun (o_15 : Out) =>
                                                ift o_15.snd.isEmpty
                                                  (asD o_15.fst fun (d_16 : D) =>
                                                    asS d_16 fun (l_17 : List UInt8) =>
                                                      ift (decide (l_17.length + ([101] ++ l_5).length < 4611686018427387904))
                                                        (Tr.call (Task.call 13 [V.d (D.s (l_17 ++ ([101] ++ l_5)))] []) fun (o_18 : Out) =>
                                                          ift o_18.snd.isEmpty
                                                            (unT o_18.fst fun (l_19 : List V) =>
                                                              ift (l_19.length == 2)
                                                                (asD (l_19.getD 0 (V.d (D.b false))) fun (d_20 : D) =>
                                                                  asI IntKind.u64 d_20 fun (n_21 : Int) =>
                                                                    asD (l_19.getD 1 (V.d (D.b false))) fun (d_22 : D) =>
                                                                      asI IntKind.i64 d_22 fun (n_23 : Int) =>
                                                                        Tr.call (Task.call 19 [V.d (D.i IntKind.i64 (IntKind.i64.wrap (a.tmod 1000000000000000000)))] []) fun (o_24 : Out) =>
                                                                          ift o_24.snd.isEmpty
                                                                            (asD o_24.fst fun (d_25 : D) =>
                                                                              asS d_25 fun (l_26 : List UInt8) =>
                                                                                ift (decide (1 + l_26.length < 4611686018427387904))
                                                                                  (ift (decide (([45] ++ l_26).length + ([101] ++ l_5).length < 4611686018427387904))
                                                                                    (Tr.call (Task.call 13 [V.d (D.s ([45] ++ l_26 ++ ([101] ++ l_5)))] []) fun (o_27 : Out) =>
                                                                                      ift o_27.snd.isEmpty
                                                                                        (unT o_27.fst fun (l_28 : List V) =>
                                                                                          ift (l_28.length == 2)
                                                                                            (asD (l_28.getD 0 (V.d (D.b false))) fun (d_29 : D) =>
                                                                                              asI IntKind.u64 d_29 fun (n_30 : Int) =>
                                                                                                asD (l_28.getD 1 (V.d (D.b false))) fun (d_31 : D) =>
                                                                                                  asI IntKind.i64 d_31 fun (n_32 : Int) =>
                                                                                                    brB (n_14 != 0)
                                                                                                      (Tr.call
                                                                                                        (Task.at_ 6 0 [true, false, true, true, true, true, true, true, true]
                                                                                                          (sv 107
                                                                                                            [(7, V.d (D.i IntKind.u64 (a.tmod 1000000000000000000))),
                                                                                                              (8, V.d (D.i IntKind.u64 (b.tmod 1000000000000000000))), (10, V.d (D.i IntKind.u64 n_12)),
                                                                                                              (11, V.d (D.i IntKind.i64 n_14)), (12, V.d (D.i IntKind.u64 n_21)),
                                                                                                              (13, V.d (D.i IntKind.i64 n_23)), (14, V.d (D.i IntKind.u64 n_30)),
                                                                                                              (15, V.d (D.i IntKind.i64 n_32)), (64, V.d (D.b true))])
                                                                                                          [] [])
                                                                                                        Tr.ret)
                                                                                                      (brB (n_23 != 0)
                                                                                                        (Tr.call
                                                                                                          (Task.at_ 6 0 [true, false, true, true, true, true, true, true, true]
                                                                                                            (sv 107
                                                                                                              [(7, V.d (D.i IntKind.u64 (a.tmod 1000000000000000000))),
                                                                                                                (8, V.d (D.i IntKind.u64 (b.tmod 1000000000000000000))),
                                                                                                                (10, V.d (D.i IntKind.u64 n_12)), (11, V.d (D.i IntKind.i64 n_14)),
                                                                                                                (12, V.d (D.i IntKind.u64 n_21)), (13, V.d (D.i IntKind.i64 n_23)),
                                                                                                                (14, V.d (D.i IntKind.u64 n_30)), (15, V.d (D.i IntKind.i64 n_32)),
                                                                                                                (64, V.d (D.b true))])
                                                                                                            [] [])
                                                                                                          Tr.ret)
                                                                                                        (Tr.call
                                                                                                          (Task.at_ 6 0 [true, false, true, true, true, true, true, true, true]
                                                                                                            (sv 107
                                                                                                              [(7, V.d (D.i IntKind.u64 (a.tmod 1000000000000000000))),
                                                                                                                (8, V.d (D.i IntKind.u64 (b.tmod 1000000000000000000))),
                                                                                                                (10, V.d (D.i IntKind.u64 n_12)), (11, V.d (D.i IntKind.i64 n_14)),
                                                                                                                (12, V.d (D.i IntKind.u64 n_21)), (13, V.d (D.i IntKind.i64 n_23)),
                                                                                                                (14, V.d (D.i IntKind.u64 n_30)), (15, V.d (D.i IntKind.i64 n_32)),
                                                                                                                (64, V.d (D.b (n_32 != 0)))])
                                                                                                            [] [])
                                                                                                          Tr.ret)))))))))))))))))))) :=
  rk_of (by kernel_rfl)
theorem f7 (n : Int) (k : Int) (b : Bool) :
    rk Tryd.prog pol (Task.call 7 [V.d (D.i IntKind.u64 n), V.d (D.i IntKind.u8 k), V.d (D.b b)] []) = interp (rk Tryd.prog pol) (
Tr.call (Task.call 12 [] []) fun (o_0 : Out) =>
  ift o_0.snd.isEmpty
    (asD o_0.fst fun (d_1 : D) =>
      asB d_1 fun (b_2 : Bool) =>
        brB (!b_2) (Tr.ret (V.d (D.b false), []))
          (Tr.call (Task.call 19 [V.d (D.i IntKind.i64 (IntKind.i64.wrap (n.tmod 1000000000000000)))] []) fun (o_3 : Out) =>
            ift o_3.snd.isEmpty
              (asD o_3.fst fun (d_4 : D) =>
                asS d_4 fun (l_5 : List UInt8) =>
                  ift (decide (0 ≤ IntKind.i64.wrap (k.tmod 20) ∧ IntKind.i64.wrap (k.tmod 20) ≤ 20))
                    (Tr.call (Task.call 13 [V.d (D.s l_5)] []) fun (o_6 : Out) =>
                      ift o_6.snd.isEmpty
                        (unT o_6.fst fun (l_7 : List V) =>
                          ift (l_7.length == 2)
                            (asD (l_7.getD 0 (V.d (D.b false))) fun (d_8 : D) =>
                              asI IntKind.u64 d_8 fun (n_9 : Int) =>
                                asD (l_7.getD 1 (V.d (D.b false))) fun (d_10 : D) =>
                                  asI IntKind.i64 d_10 fun (n_11 : Int) =>
                                    brB b
                                      (Tr.call
                                        (Task.at_ 7 0 [true, true, true, true, true, true, true, true, true]
                                          (sv 95
                                            [(7, V.d (D.i IntKind.u64 (n.tmod 1000000000000000))), (8, V.d (D.s l_5)), (9, V.d (D.i IntKind.i64 (IntKind.i64.wrap (k.tmod 20)))),
                                              (10, V.d (D.s (List.take ((IntKind.i64.wrap (k.tmod 20)).toNat - 0) [48, 48, 48, 48, 48, 48, 48, 48, 48, 48, 48, 48, 48, 48, 48, 48, 48, 48, 48, 48]))),
                                              (11, V.d (D.i IntKind.u64 n_9)), (12, V.d (D.i IntKind.i64 n_11)), (13, V.d (D.s [69, 43]))])
                                          [] [])
                                        Tr.ret)
                                      (Tr.call
                                        (Task.at_ 7 0 [true, true, true, true, true, true, true, true, true]
                                          (sv 95
                                            [(7, V.d (D.i IntKind.u64 (n.tmod 1000000000000000))), (8, V.d (D.s l_5)), (9, V.d (D.i IntKind.i64 (IntKind.i64.wrap (k.tmod 20)))),
                                              (10, V.d (D.s (List.take ((IntKind.i64.wrap (k.tmod 20)).toNat - 0) [48, 48, 48, 48, 48, 48, 48, 48, 48, 48, 48, 48, 48, 48, 48, 48, 48, 48, 48, 48]))),
                                              (11, V.d (D.i IntKind.u64 n_9)), (12, V.d (D.i IntKind.i64 n_11)), (13, V.d (D.s [101]))])
                                          [] [])
                                        Tr.ret)))))))) :=
  rk_of (by kernel_rfl)
theorem f8 (n : Int) (b : Bool) :
    rk Tryd.prog pol (Task.call 8 [V.d (D.i IntKind.u64 n), V.d (D.b b)] []) = interp (rk Tryd.prog pol) (
Tr.call (Task.call 12 [] []) fun (o_0 : Out) =>
  ift o_0.snd.isEmpty
    (asD o_0.fst fun (d_1 : D) =>
      asB d_1 fun (b_2 : Bool) =>
        brB (!b_2) (Tr.ret (V.d (D.b false), []))
          (brB (decide (n.tmod 9007199254740992 > 0))
            (Tr.call
              (Task.at_ 8 0 [false, false, true, true, false, true, false, true, true, true, true]
                (sv 86 [(1, V.d (D.b b)), (5, V.d (D.i IntKind.u64 (n.tmod 9007199254740992))), (7, V.d (D.i IntKind.i64 52)), (8, V.d (D.i IntKind.u64 (n.tmod 9007199254740992)))]) [] [])
              Tr.ret)
            (Tr.call (Task.at_ 8 0 [true, true, true, true, true] (sv 86 [(1, V.d (D.b b)), (5, V.d (D.i IntKind.u64 (n.tmod 9007199254740992))), (6, V.d (D.i IntKind.u64 0))]) [] []) Tr.ret)))) :=
  rk_of (by kernel_rfl)
theorem f10 (n : Int) (k : Int) :
    rk Tryd.prog pol (Task.call 10 [V.d (D.i IntKind.u64 n), V.d (D.i IntKind.u8 k)] []) = interp (rk Tryd.prog pol) (
Tr.call (Task.call 12 [] []) fun (o_0 : Out) =>
  ift o_0.snd.isEmpty
    (asD o_0.fst fun (d_1 : D) =>
      asB d_1 fun (b_2 : Bool) =>
        brB (!b_2) (Tr.ret (V.d (D.b false), []))
          (Tr.call (Task.call 19 [V.d (D.i IntKind.i64 (IntKind.i64.wrap (IntKind.u64.wrap (4503599627370496 + n.tmod 4503599627370496))))] []) fun (o_3 : Out) =>
            ift o_3.snd.isEmpty
              (asD o_3.fst fun (d_4 : D) =>
                asS d_4 fun (l_5 : List UInt8) =>
                  ob (getI [D.s [46, 53], D.s [46, 53, 48, 48, 48, 48, 48, 48, 48, 49], D.s [46, 52, 57, 57, 57, 57, 57, 57, 57, 57]] (k.tmod 3)) fun (d_6 : D) =>
                    ift (d_6.width == 1)
                      (ob [D.s [46, 53], D.s [46, 53, 48, 48, 48, 48, 48, 48, 48, 49], D.s [46, 52, 57, 57, 57, 57, 57, 57, 57, 57]][(k.tmod 3).toNat]? fun (d_7 : D) =>
                        ob d_7.cells[0]? fun (d_8 : D) =>
                          asS d_8 fun (l_9 : List UInt8) =>
                            ift (decide (l_5.length + l_9.length < 4611686018427387904))
                              (Tr.call (Task.call 13 [V.d (D.s (l_5 ++ l_9))] []) fun (o_10 : Out) =>
                                ift o_10.snd.isEmpty
                                  (unT o_10.fst fun (l_11 : List V) =>
                                    ift (l_11.length == 2)
                                      (asD (l_11.getD 0 (V.d (D.b false))) fun (d_12 : D) =>
                                        asI IntKind.u64 d_12 fun (n_13 : Int) =>
                                          asD (l_11.getD 1 (V.d (D.b false))) fun (d_14 : D) =>
                                            asI IntKind.i64 d_14 fun (n_15 : Int) =>
                                              brB (k.tmod 3 == 0)
                                                (Tr.call
                                                  (Task.at_ 10 0 [true, true, true, true, true, true, true, true, true]
                                                    (sv 55
                                                      [(8, V.d (D.i IntKind.u64 n_13)), (9, V.d (D.i IntKind.i64 n_15)),
                                                        (11,
                                                          V.d
                                                            (D.i IntKind.u64
                                                              (IntKind.u64.wrap
                                                                (IntKind.u64.wrap
                                                                    (↑(BitVec.ofInt IntKind.u64.bits 4841369599423283200 |||
                                                                            BitVec.ofInt IntKind.u64.bits
                                                                              (IntKind.u64.wrap (IntKind.u64.wrap (4503599627370496 + n.tmod 4503599627370496) - 4503599627370496))).toNat :
                                                                      Int) +
                                                                  (IntKind.u64.wrap (4503599627370496 + n.tmod 4503599627370496)).tmod 2))))])
                                                    [] [])
                                                  Tr.ret)
                                                (brB (k.tmod 3 == 1)
                                                  (Tr.call
                                                    (Task.at_ 10 0 [true, true, true, true, true, true, true, true, true]
                                                      (sv 55
                                                        [(8, V.d (D.i IntKind.u64 n_13)), (9, V.d (D.i IntKind.i64 n_15)),
                                                          (11,
                                                            V.d
                                                              (D.i IntKind.u64
                                                                (IntKind.u64.wrap
                                                                  (IntKind.u64.wrap
                                                                      (↑(BitVec.ofInt IntKind.u64.bits 4841369599423283200 |||
                                                                              BitVec.ofInt IntKind.u64.bits
                                                                                (IntKind.u64.wrap (IntKind.u64.wrap (4503599627370496 + n.tmod 4503599627370496) - 4503599627370496))).toNat :
                                                                        Int) +
                                                                    1))))])
                                                      [] [])
                                                    Tr.ret)
                                                  (Tr.call
                                                    (Task.at_ 10 0 [true, true, true, true, true, true, true, true, true]
                                                      (sv 55
                                                        [(8, V.d (D.i IntKind.u64 n_13)), (9, V.d (D.i IntKind.i64 n_15)),
                                                          (11,
                                                            V.d
                                                              (D.i IntKind.u64
                                                                (IntKind.u64.wrap
                                                                  (↑(BitVec.ofInt IntKind.u64.bits 4841369599423283200 |||
                                                                          BitVec.ofInt IntKind.u64.bits
                                                                            (IntKind.u64.wrap (IntKind.u64.wrap (4503599627370496 + n.tmod 4503599627370496) - 4503599627370496))).toNat :
                                                                    Int))))])
                                                      [] [])
                                                    Tr.ret)))))))))) :=
  rk_of (by kernel_rfl)
theorem f11 (n : Int) (k : Int) :
    rk Tryd.prog pol (Task.call 11 [V.d (D.i IntKind.u64 n), V.d (D.i IntKind.u8 k)] []) = interp (rk Tryd.prog pol) (
Tr.call (Task.call 12 [] []) fun (o_0 : Out) =>
  ift o_0.snd.isEmpty
    (asD o_0.fst fun (d_1 : D) =>
      asB d_1 fun (b_2 : Bool) =>
        brB (!b_2) (Tr.ret (V.d (D.b false), []))
          (Tr.call (Task.call 19 [V.d (D.i IntKind.i64 (IntKind.i64.wrap (IntKind.i64.wrap (k.tmod 200) - 100)))] []) fun (o_3 : Out) =>
            ift o_3.snd.isEmpty
              (asD o_3.fst fun (d_4 : D) =>
                asS d_4 fun (l_5 : List UInt8) =>
                  ift (decide (1 + l_5.length < 4611686018427387904))
                    (Tr.call (Task.call 19 [V.d (D.i IntKind.i64 (IntKind.i64.wrap (IntKind.u64.wrap (1 + n.tmod 100000000000000000))))] []) fun (o_6 : Out) =>
                      ift o_6.snd.isEmpty
                        (asD o_6.fst fun (d_7 : D) =>
                          asS d_7 fun (l_8 : List UInt8) =>
                            ift (decide (l_8.length + ([101] ++ l_5).length < 4611686018427387904))
                              (Tr.call (Task.call 13 [V.d (D.s (l_8 ++ ([101] ++ l_5)))] []) fun (o_9 : Out) =>
                                ift o_9.snd.isEmpty
                                  (unT o_9.fst fun (l_10 : List V) =>
                                    ift (l_10.length == 2)
                                      (asD (l_10.getD 0 (V.d (D.b false))) fun (d_11 : D) =>
                                        asI IntKind.u64 d_11 fun (n_12 : Int) =>
                                          asD (l_10.getD 1 (V.d (D.b false))) fun (d_13 : D) =>
                                            asI IntKind.i64 d_13 fun (n_14 : Int) =>
                                              Tr.call (Task.call 19 [V.d (D.i IntKind.i64 (IntKind.i64.wrap (IntKind.u64.wrap (2 * IntKind.u64.wrap (1 + n.tmod 100000000000000000)))))] [])
                                                fun (o_15 : Out) =>
                                                ift o_15.snd.isEmpty
                                                  (asD o_15.fst fun (d_16 : D) =>
                                                    asS d_16 fun (l_17 : List UInt8) =>
                                                      ift (decide (l_17.length + ([101] ++ l_5).length < 4611686018427387904))
                                                        (Tr.call (Task.call 13 [V.d (D.s (l_17 ++ ([101] ++ l_5)))] []) fun (o_18 : Out) =>
                                                          ift o_18.snd.isEmpty
                                                            (unT o_18.fst fun (l_19 : List V) =>
                                                              ift (l_19.length == 2)
                                                                (asD (l_19.getD 0 (V.d (D.b false))) fun (d_20 : D) =>
                                                                  asI IntKind.u64 d_20 fun (n_21 : Int) =>
                                                                    asD (l_19.getD 1 (V.d (D.b false))) fun (d_22 : D) =>
                                                                      asI IntKind.i64 d_22 fun (n_23 : Int) =>
                                                                        brB (n_14 == 0)
                                                                          (brB (n_23 == 0) (Tr.ret (V.d (D.b (n_21 == IntKind.u64.wrap (n_12 + 4503599627370496))), [])) (Tr.ret (V.d (D.b false), [])))
                                                                          (Tr.ret (V.d (D.b false), []))))))))))))))) :=
  rk_of (by kernel_rfl)
theorem f46_at11 (n_0 : Int) (l_1 : List UInt8) :
    rk Tryd.prog pol (Task.at_ 46 0 [false, true, true] (sv 17 [(0, V.d (D.i IntKind.u64 n_0)), (3, V.d (D.s l_1))]) [] []) = interp (rk Tryd.prog pol) (
ift (decide (1 + l_1.length < 4611686018427387904))
  (brB (IntKind.u64.wrap (n_0.tdiv 10) == 0) (Tr.ret (V.d (D.s ([UInt8.ofNat (IntKind.u8.wrap (IntKind.u64.wrap (48 + n_0.tmod 10))).toNat] ++ l_1)), []))
    (Tr.call
      (Task.at_ 46 0 [false, true, true]
        (sv 17 [(0, V.d (D.i IntKind.u64 (IntKind.u64.wrap (n_0.tdiv 10)))), (3, V.d (D.s ([UInt8.ofNat (IntKind.u8.wrap (IntKind.u64.wrap (48 + n_0.tmod 10))).toNat] ++ l_1)))]) [] [])
      Tr.ret))) :=
  rk_of (by kernel_rfl)
theorem f9_at351 (b_0 : Bool) (l_1 : List D) (b_2 : Bool) (l_3 : List D) (b_4 : Bool) (l_5 : List D) (n_6 : Int) :
    rk Tryd.prog pol (Task.at_ 9 0 [false, true, false, true, true, true, true, true] (sv 62 [(1, V.d (D.l b_0 l_1)), (2, V.d (D.l b_2 l_3)), (3, V.d (D.l b_4 l_5)), (4, V.d (D.i IntKind.i64 n_6))]) [] []) = interp (rk Tryd.prog pol) (
brB (decide (n_6 < (↑l_1.length : Int)))
  (ob (getI l_1 n_6) fun (d_0 : D) =>
    ift (d_0.width == 1)
      (ob l_1[n_6.toNat]? fun (d_1 : D) =>
        ob d_1.cells[0]? fun (d_2 : D) =>
          asS d_2 fun (l_3_1 : List UInt8) =>
            Tr.call (Task.call 13 [V.d (D.s l_3_1)] []) fun (o_4 : Out) =>
              ift o_4.snd.isEmpty
                (unT o_4.fst fun (l_5_1 : List V) =>
                  ift (l_5_1.length == 2)
                    (asD (l_5_1.getD 0 (V.d (D.b false))) fun (d_6 : D) =>
                      asI IntKind.u64 d_6 fun (n_7 : Int) =>
                        asD (l_5_1.getD 1 (V.d (D.b false))) fun (d_8 : D) =>
                          asI IntKind.i64 d_8 fun (n_9 : Int) =>
                            ob (getI l_5 n_6) fun (d_10 : D) =>
                              ift (d_10.width == 1)
                                (ob l_5[n_6.toNat]? fun (d_11 : D) =>
                                  ob d_11.cells[0]? fun (d_12 : D) =>
                                    asI IntKind.i64 d_12 fun (n_13 : Int) =>
                                      brB (n_9 != n_13)
                                        (Tr.call
                                          (Task.at_ 9 0 [true, true, false, false, true, false, false, true, false, true, true, true, true, true]
                                            (sv 62 [(1, V.d (D.l b_0 l_1)), (2, V.d (D.l b_2 l_3)), (3, V.d (D.l b_4 l_5)), (4, V.d (D.i IntKind.i64 n_6)), (39, V.d (D.b true))]) [] [])
                                          Tr.ret)
                                        (ob (getI l_3 n_6) fun (d_14 : D) =>
                                          ift (d_14.width == 1)
                                            (ob l_3[n_6.toNat]? fun (d_15 : D) =>
                                              ob d_15.cells[0]? fun (d_16 : D) =>
                                                asI IntKind.u64 d_16 fun (n_17 : Int) =>
                                                  Tr.call
                                                    (Task.at_ 9 0 [true, true, false, false, true, false, false, true, false, true, true, true, true, true]
                                                      (sv 62 [(1, V.d (D.l b_0 l_1)), (2, V.d (D.l b_2 l_3)), (3, V.d (D.l b_4 l_5)), (4, V.d (D.i IntKind.i64 n_6)), (39, V.d (D.b (n_7 != n_17)))]) []
                                                      [])
                                                    Tr.ret)))))))
  (Tr.call (Task.call 15 [V.d (D.i IntKind.u64 0)] []) fun (o_18 : Out) =>
    ift o_18.snd.isEmpty
      (asD o_18.fst fun (d_19 : D) =>
        asS d_19 fun (l_20 : List UInt8) =>
          brB (l_20 == [48, 46, 48, 101, 48])
            (Tr.call (Task.call 15 [V.d (D.i IntKind.u64 9223372036854775808)] []) fun (o_21 : Out) =>
              ift o_21.snd.isEmpty
                (asD o_21.fst fun (d_22 : D) =>
                  asS d_22 fun (l_23 : List UInt8) =>
                    brB (l_23 == [45, 48, 46, 48, 101, 48])
                      (Tr.call (Task.call 15 [V.d (D.i IntKind.u64 1)] []) fun (o_24 : Out) =>
                        ift o_24.snd.isEmpty
                          (asD o_24.fst fun (d_25 : D) =>
                            asS d_25 fun (l_26 : List UInt8) =>
                              brB (l_26 == [52, 46, 57, 52, 48, 54, 53, 54, 52, 53, 56, 52, 49, 50, 52, 54, 53, 52, 101, 45, 51, 50, 52])
                                (Tr.call (Task.call 15 [V.d (D.i IntKind.u64 9218868437227405311)] []) fun (o_27 : Out) =>
                                  ift o_27.snd.isEmpty
                                    (asD o_27.fst fun (d_28 : D) =>
                                      asS d_28 fun (l_29 : List UInt8) =>
                                        brB (l_29 == [49, 46, 55, 57, 55, 54, 57, 51, 49, 51, 52, 56, 54, 50, 51, 49, 53, 55, 101, 51, 48, 56])
                                          (Tr.call (Task.call 15 [V.d (D.i IntKind.u64 9218868437227405312)] []) fun (o_30 : Out) =>
                                            ift o_30.snd.isEmpty
                                              (asD o_30.fst fun (d_31 : D) =>
                                                asS d_31 fun (l_32 : List UInt8) =>
                                                  brB (l_32 == [])
                                                    (Tr.call (Task.call 17 [V.d (D.i IntKind.i64 (-9223372036854775808))] []) fun (o_33 : Out) =>
                                                      ift o_33.snd.isEmpty
                                                        (asD o_33.fst fun (d_34 : D) => asI IntKind.u64 d_34 fun (n_35 : Int) => Tr.ret (V.d (D.b (n_35 == 14114281232179134464)), [])))
                                                    (Tr.ret (V.d (D.b false), []))))
                                          (Tr.ret (V.d (D.b false), []))))
                                (Tr.ret (V.d (D.b false), []))))
                      (Tr.ret (V.d (D.b false), []))))
            (Tr.ret (V.d (D.b false), []))))) :=
  rk_of (by kernel_rfl)
theorem f6_at895 (n_0 : Int) (n_1 : Int) (n_2 : Int) (n_3 : Int) (n_4 : Int) (n_5 : Int) (n_6 : Int) (n_7 : Int) (b_8 : Bool) :
    rk Tryd.prog pol (Task.at_ 6 0 [true, false, true, true, true, true, true, true, true]
  (sv 107
    [(7, V.d (D.i IntKind.u64 n_0)), (8, V.d (D.i IntKind.u64 n_1)), (10, V.d (D.i IntKind.u64 n_2)), (11, V.d (D.i IntKind.i64 n_3)), (12, V.d (D.i IntKind.u64 n_4)), (13, V.d (D.i IntKind.i64 n_5)),
      (14, V.d (D.i IntKind.u64 n_6)), (15, V.d (D.i IntKind.i64 n_7)), (64, V.d (D.b b_8))])
  [] []) = interp (rk Tryd.prog pol) (
brB b_8
  (brB (n_3 == 5) (brB (n_7 == 5) (Tr.ret (V.d (D.b true), [])) (brB (n_3 == 0) (brB (n_7 == 0) (Tr.ret (V.d (D.b (n_5 == 5)), [])) (Tr.ret (V.d (D.b false), []))) (Tr.ret (V.d (D.b false), []))))
    (brB (n_3 == 0) (brB (n_7 == 0) (Tr.ret (V.d (D.b (n_5 == 5)), [])) (Tr.ret (V.d (D.b false), []))) (Tr.ret (V.d (D.b false), []))))
  (brB (n_6 == IntKind.u64.wrap (↑(BitVec.ofInt IntKind.u64.bits n_2 ||| BitVec.ofInt IntKind.u64.bits 9223372036854775808).toNat : Int))
    (brB (decide (n_0 > n_1)) (brB (decide (n_0 < n_1)) (Tr.ret (V.d (D.b true), [])) (Tr.ret (V.d (D.b (decide (n_2 ≥ n_4))), [])))
      (brB (decide (n_2 ≤ n_4)) (brB (decide (n_0 < n_1)) (Tr.ret (V.d (D.b true), [])) (Tr.ret (V.d (D.b (decide (n_2 ≥ n_4))), []))) (Tr.ret (V.d (D.b false), []))))
    (Tr.ret (V.d (D.b false), [])))) :=
  rk_of (by kernel_rfl)
theorem f7_at1023 (n_0 : Int) (l_1 : List UInt8) (n_2 : Int) (l_3 : List UInt8) (n_4 : Int) (n_5 : Int) (l_6 : List UInt8) :
    rk Tryd.prog pol (Task.at_ 7 0 [true, true, true, true, true, true, true, true, true]
  (sv 95
    [(7, V.d (D.i IntKind.u64 n_0)), (8, V.d (D.s l_1)), (9, V.d (D.i IntKind.i64 n_2)), (10, V.d (D.s l_3)), (11, V.d (D.i IntKind.u64 n_4)), (12, V.d (D.i IntKind.i64 n_5)), (13, V.d (D.s l_6))])
  [] []) = interp (rk Tryd.prog pol) (
ift (decide (1 + l_1.length < 4611686018427387904))
  (ift (decide (1 + l_1.length < 4611686018427387904))
    (ift (decide (l_1.length + 2 < 4611686018427387904))
      (ift (decide (l_1.length + l_3.length < 4611686018427387904))
        (ift (decide ((l_1 ++ l_3).length + 2 < 4611686018427387904))
          (Tr.call (Task.call 19 [V.d (D.i IntKind.i64 n_2)] []) fun (o_0 : Out) =>
            ift o_0.snd.isEmpty
              (asD o_0.fst fun (d_1 : D) =>
                asS d_1 fun (l_2 : List UInt8) =>
                  ift (decide ((l_1 ++ l_3 ++ [101, 45]).length + l_2.length < 4611686018427387904))
                    (ift (decide (l_1.length + l_6.length < 4611686018427387904))
                      (ift (decide ((l_1 ++ l_6).length + 1 < 4611686018427387904))
                        (ift (decide (2 + l_3.length < 4611686018427387904))
                          (ift (decide (([48, 46] ++ l_3).length + l_1.length < 4611686018427387904))
                            (ift (decide (([48, 46] ++ l_3 ++ l_1).length + 1 < 4611686018427387904))
                              (Tr.call (Task.call 19 [V.d (D.i IntKind.i64 (IntKind.i64.wrap (n_2 + (↑l_1.length : Int))))] []) fun (o_3 : Out) =>
                                ift o_3.snd.isEmpty
                                  (asD o_3.fst fun (d_4 : D) =>
                                    asS d_4 fun (l_5 : List UInt8) =>
                                      ift (decide (([48, 46] ++ l_3 ++ l_1 ++ [101]).length + l_5.length < 4611686018427387904))
                                        (Tr.call
                                          (Task.at_ 7 0 [false, true, false, true, true, true, true, true, true, true, true, true, true]
                                            (sv 95
                                              [(7, V.d (D.i IntKind.u64 n_0)), (11, V.d (D.i IntKind.u64 n_4)), (12, V.d (D.i IntKind.i64 n_5)),
                                                (14,
                                                  V.d
                                                    (D.l true
                                                      [D.s ([43] ++ l_1), D.s ([48] ++ l_1), D.s (l_1 ++ [46, 48]), D.s (l_1 ++ l_3 ++ [101, 45] ++ l_2), D.s (l_1 ++ l_6 ++ [48]),
                                                        D.s ([48, 46] ++ l_3 ++ l_1 ++ [101] ++ l_5)])),
                                                (15, V.d (D.i IntKind.i64 0))])
                                            [] [])
                                          Tr.ret))))))))))))))) :=
  rk_of (by kernel_rfl)
theorem f8_at2479 (b_0 : Bool) (n_1 : Int) (n_2 : Int) (n_3 : Int) :
    rk Tryd.prog pol (Task.at_ 8 0 [false, false, true, true, false, true, false, true, true, true, true]
  (sv 86 [(1, V.d (D.b b_0)), (5, V.d (D.i IntKind.u64 n_1)), (7, V.d (D.i IntKind.i64 n_2)), (8, V.d (D.i IntKind.u64 n_3))]) [] []) = interp (rk Tryd.prog pol) (
brB (decide (n_3 < 4503599627370496))
  (Tr.call
    (Task.at_ 8 0 [false, false, true, true, false, true, false, true, true, true, true]
      (sv 86 [(1, V.d (D.b b_0)), (5, V.d (D.i IntKind.u64 n_1)), (7, V.d (D.i IntKind.i64 (IntKind.i64.wrap (n_2 - 1)))), (8, V.d (D.i IntKind.u64 (IntKind.u64.wrap (n_3 * 2))))]) [] [])
    Tr.ret)
  (Tr.call
    (Task.at_ 8 0 [true, true, true, true, true]
      (sv 86
        [(1, V.d (D.b b_0)), (5, V.d (D.i IntKind.u64 n_1)),
          (6,
            V.d
              (D.i IntKind.u64
                (IntKind.u64.wrap
                  (↑(BitVec.ofInt IntKind.u64.bits (IntKind.u64.wrap (IntKind.u64.wrap (IntKind.i64.wrap (n_2 + 1023)) * 4503599627370496)) |||
                          BitVec.ofInt IntKind.u64.bits (IntKind.u64.wrap (n_3 - 4503599627370496))).toNat :
                    Int))))])
      [] [])
    Tr.ret)) :=
  rk_of (by kernel_rfl)
theorem f8_at63 (b_0 : Bool) (n_1 : Int) (n_2 : Int) :
    rk Tryd.prog pol (Task.at_ 8 0 [true, true, true, true, true] (sv 86 [(1, V.d (D.b b_0)), (5, V.d (D.i IntKind.u64 n_1)), (6, V.d (D.i IntKind.u64 n_2))]) [] []) = interp (rk Tryd.prog pol) (
Tr.call (Task.call 19 [V.d (D.i IntKind.i64 (IntKind.i64.wrap n_1))] []) fun (o_0 : Out) =>
  ift o_0.snd.isEmpty
    (asD o_0.fst fun (d_1 : D) =>
      asS d_1 fun (l_2 : List UInt8) =>
        Tr.call (Task.call 13 [V.d (D.s l_2)] []) fun (o_3 : Out) =>
          ift o_3.snd.isEmpty
            (unT o_3.fst fun (l_4 : List V) =>
              ift (l_4.length == 2)
                (asD (l_4.getD 0 (V.d (D.b false))) fun (d_5 : D) =>
                  asI IntKind.u64 d_5 fun (n_6 : Int) =>
                    asD (l_4.getD 1 (V.d (D.b false))) fun (d_7 : D) =>
                      asI IntKind.i64 d_7 fun (n_8 : Int) =>
                        brB (n_8 != 0)
                          (Tr.call (Task.at_ 8 0 [true, false, true, true, true, true, true, true] (sv 86 [(1, V.d (D.b b_0)), (5, V.d (D.i IntKind.u64 n_1)), (54, V.d (D.b true))]) [] []) Tr.ret)
                          (brB (n_6 != n_2)
                            (Tr.call (Task.at_ 8 0 [true, false, true, true, true, true, true, true] (sv 86 [(1, V.d (D.b b_0)), (5, V.d (D.i IntKind.u64 n_1)), (54, V.d (D.b true))]) [] []) Tr.ret)
                            (Tr.call (Task.call 17 [V.d (D.i IntKind.i64 (IntKind.i64.wrap n_1))] []) fun (o_9 : Out) =>
                              ift o_9.snd.isEmpty
                                (asD o_9.fst fun (d_10 : D) =>
                                  asI IntKind.u64 d_10 fun (n_11 : Int) =>
                                    Tr.call
                                      (Task.at_ 8 0 [true, false, true, true, true, true, true, true] (sv 86 [(1, V.d (D.b b_0)), (5, V.d (D.i IntKind.u64 n_1)), (54, V.d (D.b (n_11 != n_2)))]) [] [])
                                      Tr.ret))))))) :=
  rk_of (by kernel_rfl)
theorem f10_at1023 (n_0 : Int) (n_1 : Int) (n_2 : Int) :
    rk Tryd.prog pol (Task.at_ 10 0 [true, true, true, true, true, true, true, true, true] (sv 55 [(8, V.d (D.i IntKind.u64 n_0)), (9, V.d (D.i IntKind.i64 n_1)), (11, V.d (D.i IntKind.u64 n_2))]) [] []) = interp (rk Tryd.prog pol) (
brB (n_1 == 0) (Tr.ret (V.d (D.b (n_0 == n_2)), [])) (Tr.ret (V.d (D.b false), []))) :=
  rk_of (by kernel_rfl)
theorem f9_at29279 (b_0 : Bool) (l_1 : List D) (b_2 : Bool) (l_3 : List D) (b_4 : Bool) (l_5 : List D) (n_6 : Int) (b_7 : Bool) :
    rk Tryd.prog pol (Task.at_ 9 0 [true, true, false, false, true, false, false, true, false, true, true, true, true, true]
  (sv 62 [(1, V.d (D.l b_0 l_1)), (2, V.d (D.l b_2 l_3)), (3, V.d (D.l b_4 l_5)), (4, V.d (D.i IntKind.i64 n_6)), (39, V.d (D.b b_7))]) [] []) = interp (rk Tryd.prog pol) (
brB b_7 (Tr.ret (V.d (D.b false), []))
  (Tr.call
    (Task.at_ 9 0 [false, true, false, true, true, true, true, true]
      (sv 62 [(1, V.d (D.l b_0 l_1)), (2, V.d (D.l b_2 l_3)), (3, V.d (D.l b_4 l_5)), (4, V.d (D.i IntKind.i64 (IntKind.i64.wrap (n_6 + 1))))]) [] [])
    Tr.ret)) :=
  rk_of (by kernel_rfl)
theorem f7_at11263 (n_0 : Int) (n_1 : Int) (n_2 : Int) (b_3 : Bool) (l_4 : List D) (n_5 : Int) :
    rk Tryd.prog pol (Task.at_ 7 0 [false, true, false, true, true, true, true, true, true, true, true, true, true]
  (sv 95 [(7, V.d (D.i IntKind.u64 n_0)), (11, V.d (D.i IntKind.u64 n_1)), (12, V.d (D.i IntKind.i64 n_2)), (14, V.d (D.l b_3 l_4)), (15, V.d (D.i IntKind.i64 n_5))]) [] []) = interp (rk Tryd.prog pol) (
brB (decide (n_5 < (↑l_4.length : Int)))
  (ob (getI l_4 n_5) fun (d_0 : D) =>
    ift (d_0.width == 1)
      (ob l_4[n_5.toNat]? fun (d_1 : D) =>
        ob d_1.cells[0]? fun (d_2 : D) =>
          asS d_2 fun (l_3 : List UInt8) =>
            Tr.call (Task.call 13 [V.d (D.s l_3)] []) fun (o_4 : Out) =>
              ift o_4.snd.isEmpty
                (unT o_4.fst fun (l_5 : List V) =>
                  ift (l_5.length == 2)
                    (asD (l_5.getD 0 (V.d (D.b false))) fun (d_6 : D) =>
                      asI IntKind.u64 d_6 fun (n_7 : Int) =>
                        asD (l_5.getD 1 (V.d (D.b false))) fun (d_8 : D) =>
                          asI IntKind.i64 d_8 fun (n_9 : Int) =>
                            brB (n_9 != 0)
                              (Tr.call
                                (Task.at_ 7 0 [true, true, false, false, true, false, false, true, false, true, true, true, true, true, true, true, true, true, true]
                                  (sv 95
                                    [(7, V.d (D.i IntKind.u64 n_0)), (11, V.d (D.i IntKind.u64 n_1)), (12, V.d (D.i IntKind.i64 n_2)), (14, V.d (D.l b_3 l_4)), (15, V.d (D.i IntKind.i64 n_5)),
                                      (85, V.d (D.b true))])
                                  [] [])
                                Tr.ret)
                              (Tr.call
                                (Task.at_ 7 0 [true, true, false, false, true, false, false, true, false, true, true, true, true, true, true, true, true, true, true]
                                  (sv 95
                                    [(7, V.d (D.i IntKind.u64 n_0)), (11, V.d (D.i IntKind.u64 n_1)), (12, V.d (D.i IntKind.i64 n_2)), (14, V.d (D.l b_3 l_4)), (15, V.d (D.i IntKind.i64 n_5)),
                                      (85, V.d (D.b (n_7 != n_1)))])
                                  [] [])
                                Tr.ret)))))
  (brB (n_2 == 0)
    (Tr.call (Task.call 17 [V.d (D.i IntKind.i64 (IntKind.i64.wrap n_0))] []) fun (o_10 : Out) =>
      ift o_10.snd.isEmpty (asD o_10.fst fun (d_11 : D) => asI IntKind.u64 d_11 fun (n_12 : Int) => Tr.ret (V.d (D.b (n_1 == n_12)), [])))
    (Tr.ret (V.d (D.b false), [])))) :=
  rk_of (by kernel_rfl)
theorem f8_at447 (b_0 : Bool) (n_1 : Int) (b_2 : Bool) :
    rk Tryd.prog pol (Task.at_ 8 0 [true, false, true, true, true, true, true, true] (sv 86 [(1, V.d (D.b b_0)), (5, V.d (D.i IntKind.u64 n_1)), (54, V.d (D.b b_2))]) [] []) = interp (rk Tryd.prog pol) (
brB b_2 (Tr.ret (V.d (D.b false), []))
  (brB (!b_0) (Tr.call (Task.at_ 8 0 [true, false, true, true, true, true, true, true, true] (sv 86 [(5, V.d (D.i IntKind.u64 n_1)), (64, V.d (D.b true))]) [] []) Tr.ret)
    (brB (n_1 == 0) (Tr.call (Task.at_ 8 0 [true, false, true, true, true, true, true, true, true] (sv 86 [(5, V.d (D.i IntKind.u64 n_1)), (64, V.d (D.b true))]) [] []) Tr.ret)
      (Tr.call (Task.at_ 8 0 [true, false, true, true, true, true, true, true, true] (sv 86 [(5, V.d (D.i IntKind.u64 n_1)), (64, V.d (D.b (decide (n_1 ≥ 4503599627370496))))]) [] []) Tr.ret)))) :=
  rk_of (by kernel_rfl)
theorem f7_at936959 (n_0 : Int) (n_1 : Int) (n_2 : Int) (b_3 : Bool) (l_4 : List D) (n_5 : Int) (b_6 : Bool) :
    rk Tryd.prog pol (Task.at_ 7 0 [true, true, false, false, true, false, false, true, false, true, true, true, true, true, true, true, true, true, true]
  (sv 95 [(7, V.d (D.i IntKind.u64 n_0)), (11, V.d (D.i IntKind.u64 n_1)), (12, V.d (D.i IntKind.i64 n_2)), (14, V.d (D.l b_3 l_4)), (15, V.d (D.i IntKind.i64 n_5)), (85, V.d (D.b b_6))]) [] []) = interp (rk Tryd.prog pol) (
brB b_6 (Tr.ret (V.d (D.b false), []))
  (Tr.call
    (Task.at_ 7 0 [false, true, false, true, true, true, true, true, true, true, true, true, true]
      (sv 95 [(7, V.d (D.i IntKind.u64 n_0)), (11, V.d (D.i IntKind.u64 n_1)), (12, V.d (D.i IntKind.i64 n_2)), (14, V.d (D.l b_3 l_4)), (15, V.d (D.i IntKind.i64 (IntKind.i64.wrap (n_5 + 1))))]) []
      [])
    Tr.ret)) :=
  rk_of (by kernel_rfl)
theorem f8_at895 (n_0 : Int) (b_1 : Bool) :
    rk Tryd.prog pol (Task.at_ 8 0 [true, false, true, true, true, true, true, true, true] (sv 86 [(5, V.d (D.i IntKind.u64 n_0)), (64, V.d (D.b b_1))]) [] []) = interp (rk Tryd.prog pol) (
brB b_1 (Tr.ret (V.d (D.b true), []))
  (Tr.call (Task.call 19 [V.d (D.i IntKind.i64 (IntKind.i64.wrap n_0))] []) fun (o_0 : Out) =>
    ift o_0.snd.isEmpty
      (asD o_0.fst fun (d_1 : D) =>
        asS d_1 fun (l_2 : List UInt8) =>
          ift (decide (l_2.length + 2 < 4611686018427387904))
            (Tr.call (Task.call 13 [V.d (D.s (l_2 ++ [46, 53]))] []) fun (o_3 : Out) =>
              ift o_3.snd.isEmpty
                (unT o_3.fst fun (l_4 : List V) =>
                  ift (l_4.length == 2)
                    (asD (l_4.getD 0 (V.d (D.b false))) fun (d_5 : D) =>
                      asI IntKind.u64 d_5 fun (n_6 : Int) =>
                        asD (l_4.getD 1 (V.d (D.b false))) fun (d_7 : D) =>
                          asI IntKind.i64 d_7 fun (n_8 : Int) =>
                            Tr.call (Task.call 17 [V.d (D.i IntKind.i64 (IntKind.i64.wrap (IntKind.u64.wrap (IntKind.u64.wrap (2 * n_0) + 1))))] []) fun (o_9 : Out) =>
                              ift o_9.snd.isEmpty
                                (asD o_9.fst fun (d_10 : D) =>
                                  asI IntKind.u64 d_10 fun (n_11 : Int) =>
                                    brB (n_8 == 0) (Tr.ret (V.d (D.b (n_6 == IntKind.u64.wrap (n_11 - 4503599627370496))), [])) (Tr.ret (V.d (D.b false), []))))))))) :=
  rk_of (by kernel_rfl)
end Go.Dn.Dec
