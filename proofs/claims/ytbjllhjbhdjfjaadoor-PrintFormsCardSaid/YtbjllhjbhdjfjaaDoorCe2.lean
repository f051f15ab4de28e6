/- package dec. Printed by a program of mine. -/
import Derived.Test.YtbjllhjbhdjfjaaDoorCe1
import Derived.Test.YtbjllhjbhdjfjaaDoorDn4
import Derived.KernelRfl
namespace Go.Dn.Dec
open Go.Proofs
theorem f48 (s : List UInt8) :
    rk Tryd.prog pol (Task.call 128 [V.d (D.s s)] []) = interp (rk Tryd.prog pol) (
Tr.call (Task.at_ 128 0 [false, false, true, true] (sv 29 [(0, V.d (D.s s)), (4, V.d (D.i IntKind.i64 0))]) [] []) Tr.ret) :=
  rk_of (by kernel_rfl)
theorem f47 (s : List UInt8) :
    rk Tryd.prog pol (Task.call 127 [V.d (D.s s)] []) = interp (rk Tryd.prog pol) (
brB (!s == [])
  (ob (getI s 0) fun (c_0 : UInt8) =>
    brB ((↑c_0.toNat : Int) == 43) (Tr.call (Task.at_ 127 0 [true, false, true] (sv 22 [(0, V.d (D.s s)), (15, V.d (D.b true))]) [] []) Tr.ret)
      (ob (getI s 0) fun (c_1 : UInt8) => Tr.call (Task.at_ 127 0 [true, false, true] (sv 22 [(0, V.d (D.s s)), (15, V.d (D.b ((↑c_1.toNat : Int) == 45)))]) [] []) Tr.ret))
  (Tr.call (Task.at_ 127 0 [true, false, true] (sv 22 [(0, V.d (D.s s)), (15, V.d (D.b false))]) [] []) Tr.ret)) :=
  rk_of (by kernel_rfl)
theorem f20 (s : List UInt8) :
    rk Tryd.prog pol (Task.call 109 [V.d (D.s s)] []) = interp (rk Tryd.prog pol) (
Tr.call (Task.call 127 [V.d (D.s s)] []) fun (o_0 : Out) =>
  ift o_0.snd.isEmpty
    (unT o_0.fst fun (l_1 : List V) =>
      ift (l_1.length == 2)
        (asD (l_1.getD 0 (V.d (D.b false))) fun (d_2 : D) =>
          asB d_2 fun (b_3 : Bool) =>
            asD (l_1.getD 1 (V.d (D.b false))) fun (d_4 : D) =>
              asS d_4 fun (l_5 : List UInt8) =>
                Tr.call (Task.call 128 [V.d (D.s l_5)] []) fun (o_6 : Out) =>
                  ift o_6.snd.isEmpty
                    (unT o_6.fst fun (l_7 : List V) =>
                      ift (l_7.length == 2)
                        (asD (l_7.getD 0 (V.d (D.b false))) fun (d_8 : D) =>
                          asS d_8 fun (l_9 : List UInt8) =>
                            asD (l_7.getD 1 (V.d (D.b false))) fun (d_10 : D) =>
                              asS d_10 fun (l_11 : List UInt8) =>
                                brB (!l_11 == [])
                                  (ob (getI l_11 0) fun (c_12 : UInt8) =>
                                    Tr.call
                                      (Task.at_ 109 0 [true, false, true, true, true] (sv 76 [(0, V.d (D.s l_11)), (2, V.p 0 0), (22, V.d (D.b ((↑c_12.toNat : Int) == 46)))]) []
                                        [Ob.cells [V.d (D.b b_3), V.d (D.s l_9), V.d (D.s []), V.d (D.b false), V.d (D.s [])] []])
                                      Tr.ret)
                                  (Tr.call
                                    (Task.at_ 109 0 [true, false, true, true, true] (sv 76 [(0, V.d (D.s l_11)), (2, V.p 0 0), (22, V.d (D.b false))]) []
                                      [Ob.cells [V.d (D.b b_3), V.d (D.s l_9), V.d (D.s []), V.d (D.b false), V.d (D.s [])] []])
                                    Tr.ret)))))) :=
  rk_of (by kernel_rfl)
theorem f22 (s : List UInt8) :
    rk Tryd.prog pol (Task.call 111 [V.d (D.s s)] []) = interp (rk Tryd.prog pol) (
Tr.call (Task.at_ 111 0 [false, true, false, true, true] (sv 21 [(0, V.d (D.s s)), (3, V.d (D.l true [])), (6, V.it 0)]) [(3, 1)] [Ob.iter s 0]) Tr.ret) :=
  rk_of (by kernel_rfl)
theorem f21 (b1 : Bool) (s1 : List UInt8) (s2 : List UInt8) (b2 : Bool) (s3 : List UInt8) :
    rk Tryd.prog pol (Task.call 110 [V.d (D.g [D.b b1, D.s s1, D.s s2, D.b b2, D.s s3])] []) = interp (rk Tryd.prog pol) (
Tr.call (Task.call 108 [V.d (D.s s3), V.d (D.s [48])] []) fun (o_0 : Out) =>
  ift o_0.snd.isEmpty
    (asD o_0.fst fun (d_1 : D) =>
      asS d_1 fun (l_2 : List UInt8) =>
        brB (decide ((↑l_2.length : Int) > 3)) (Tr.ret (V.t [V.d (D.i IntKind.i64 0), V.d (D.b false)], []))
          (Tr.call
            (Task.at_ 110 0 [false, true, false, true, true, true, true] (sv 37 [(1, V.p 0 0), (4, V.d (D.s l_2)), (5, V.d (D.i IntKind.i64 0)), (14, V.it 1)]) []
              [Ob.iter l_2 0, Ob.cells [V.d (D.b b1), V.d (D.s s1), V.d (D.s s2), V.d (D.b b2), V.d (D.s s3)] []])
            Tr.ret))) :=
  rk_of (by kernel_rfl)
theorem f54 (b : Bool) (xs : List D) (c : Bool) (ys : List D) :
    rk Tryd.prog pol (Task.call 71 [V.d (D.l b xs), V.d (D.l c ys)] []) = interp (rk Tryd.prog pol) (
Tr.call (Task.call 99 [V.d (D.l b xs), V.d (D.l c ys)] []) fun (o_0 : Out) =>
  ift o_0.snd.isEmpty
    (unT o_0.fst fun (l_1 : List V) =>
      ift (l_1.length == 3)
        (asD (l_1.getD 0 (V.d (D.b false))) fun (d_2 : D) =>
          asL d_2 fun (b_3 : Bool) (l_4 : List D) =>
            asD (l_1.getD 1 (V.d (D.b false))) fun (d_5 : D) =>
              asL d_5 fun (b_6 : Bool) (l_7 : List D) =>
                asD (l_1.getD 2 (V.d (D.b false))) fun (d_8 : D) =>
                  asB d_8 fun (b_9 : Bool) =>
                    Tr.call (Task.call 63 [V.d (D.l b_6 l_7), V.d (D.i IntKind.i64 1)] []) fun (o_10 : Out) =>
                      ift o_10.snd.isEmpty
                        (asD o_10.fst fun (d_11 : D) =>
                          asL d_11 fun (b_12 : Bool) (l_13 : List D) =>
                            Tr.call (Task.call 66 [V.d (D.l b_12 l_13), V.d (D.l c ys)] []) fun (o_14 : Out) =>
                              ift o_14.snd.isEmpty
                                (asD o_14.fst fun (d_15 : D) =>
                                  asI IntKind.i64 d_15 fun (n_16 : Int) =>
                                    brB (decide (n_16 > 0)) (Tr.call (Task.at_ 71 0 [true, false, true, true, true] (sv 36 [(5, V.d (D.l b_3 l_4)), (31, V.d (D.b true))]) [] []) Tr.ret)
                                      (brB (n_16 == 0)
                                        (Tr.call (Task.call 70 [V.d (D.l b_3 l_4)] []) fun (o_17 : Out) =>
                                          ift o_17.snd.isEmpty
                                            (asD o_17.fst fun (d_18 : D) =>
                                              asI IntKind.u64 d_18 fun (n_19 : Int) =>
                                                Tr.call
                                                  (Task.at_ 71 0 [true, false, true, true, true]
                                                    (sv 36
                                                      [(5, V.d (D.l b_3 l_4)),
                                                        (31, V.d (D.b (IntKind.u64.wrap (↑(BitVec.ofInt IntKind.u64.bits n_19 &&& BitVec.ofInt IntKind.u64.bits 1).toNat : Int) == 1)))])
                                                    [] [])
                                                  Tr.ret))
                                        (Tr.call (Task.at_ 71 0 [true, false, true, true, true] (sv 36 [(5, V.d (D.l b_3 l_4)), (31, V.d (D.b false))]) [] []) Tr.ret))))))) :=
  rk_of (by kernel_rfl)
theorem f55 (q : Int) (e : Int) :
    rk Tryd.prog pol (Task.call 129 [V.d (D.i IntKind.u64 q), V.d (D.i IntKind.i64 e)] []) = interp (rk Tryd.prog pol) (
brB (q.fdiv 4503599627370496 == 0) (Tr.ret (V.t [V.d (D.i IntKind.u64 q), V.d (D.b true)], []))
  (brB (decide (e > 971)) (Tr.ret (V.t [V.d (D.i IntKind.u64 0), V.d (D.b false)], []))
    (Tr.ret
      (V.t
          [V.d
              (D.i IntKind.u64
                (IntKind.u64.wrap
                  (↑(BitVec.ofInt IntKind.u64.bits (IntKind.u64.wrap (IntKind.u64.wrap (IntKind.i64.wrap (IntKind.i64.wrap (e - -1074) + 1)) * 4503599627370496)) |||
                          BitVec.ofInt IntKind.u64.bits (IntKind.u64.wrap (↑(BitVec.ofInt IntKind.u64.bits q &&& BitVec.ofInt IntKind.u64.bits 4503599627370495).toNat : Int))).toNat :
                    Int))),
            V.d (D.b true)],
        [])))) :=
  rk_of (by kernel_rfl)
theorem f26 (b : Bool) (xs : List D) (c : Bool) (ys : List D) :
    rk Tryd.prog pol (Task.call 112 [V.d (D.l b xs), V.d (D.l c ys)] []) = interp (rk Tryd.prog pol) (
Tr.call (Task.call 33 [V.d (D.l b xs)] []) fun (o_0 : Out) =>
  ift o_0.snd.isEmpty
    (asD o_0.fst fun (d_1 : D) =>
      asI IntKind.i64 d_1 fun (n_2 : Int) =>
        brB (n_2 == 0) (Tr.ret (V.t [V.d (D.i IntKind.u64 0), V.d (D.b true)], []))
          (Tr.call (Task.call 33 [V.d (D.l b xs)] []) fun (o_3 : Out) =>
            ift o_3.snd.isEmpty
              (asD o_3.fst fun (d_4 : D) =>
                asI IntKind.i64 d_4 fun (n_5 : Int) =>
                  Tr.call (Task.call 33 [V.d (D.l c ys)] []) fun (o_6 : Out) =>
                    ift o_6.snd.isEmpty
                      (asD o_6.fst fun (d_7 : D) =>
                        asI IntKind.i64 d_7 fun (n_8 : Int) =>
                          Tr.call
                            (Task.at_ 112 0 [false, true, true, true]
                              (sv 46
                                [(0, V.d (D.l b xs)), (1, V.d (D.l c ys)),
                                  (6,
                                    V.d
                                      (D.i IntKind.i64
                                        (if -1074 > IntKind.i64.wrap (IntKind.i64.wrap (IntKind.i64.wrap (n_5 - n_8) - 52) - 1) then -1074
                                        else IntKind.i64.wrap (IntKind.i64.wrap (IntKind.i64.wrap (n_5 - n_8) - 52) - 1))))])
                              [] [])
                            Tr.ret))))) :=
  rk_of (by kernel_rfl)
theorem f33 (q : Int) :
    rk Tryd.prog pol (Task.call 32 [V.d (D.i IntKind.u64 q)] []) = interp (rk Tryd.prog pol) (
brB (decide (IntKind.i64.wrap (IntKind.u64.wrap (↑(BitVec.ofInt IntKind.u64.bits (q.fdiv 4503599627370496) &&& BitVec.ofInt IntKind.u64.bits 2047).toNat : Int)) > 0))
  (Tr.call
    (Task.at_ 32 0 [true, true, true]
      (sv 34
        [(4,
            V.d
              (D.i IntKind.u64
                (IntKind.u64.wrap
                  (↑(BitVec.ofInt IntKind.u64.bits (IntKind.u64.wrap (↑(BitVec.ofInt IntKind.u64.bits q &&& BitVec.ofInt IntKind.u64.bits 4503599627370495).toNat : Int)) |||
                          BitVec.ofInt IntKind.u64.bits 4503599627370496).toNat :
                    Int)))),
          (5,
            V.d
              (D.i IntKind.i64
                (IntKind.i64.wrap
                  (-1074 +
                    IntKind.i64.wrap (IntKind.i64.wrap (IntKind.u64.wrap (↑(BitVec.ofInt IntKind.u64.bits (q.fdiv 4503599627370496) &&& BitVec.ofInt IntKind.u64.bits 2047).toNat : Int)) - 1)))))])
      [] [])
    Tr.ret)
  (Tr.call
    (Task.at_ 32 0 [true, true, true]
      (sv 34 [(4, V.d (D.i IntKind.u64 (IntKind.u64.wrap (↑(BitVec.ofInt IntKind.u64.bits q &&& BitVec.ofInt IntKind.u64.bits 4503599627370495).toNat : Int)))), (5, V.d (D.i IntKind.i64 (-1074)))]) []
      [])
    Tr.ret)) :=
  rk_of (by kernel_rfl)
theorem f35 (b : Bool) (xs : List D) (c : Bool) (ys : List D) (n : Int) :
    rk Tryd.prog pol (Task.call 34 [V.d (D.l b xs), V.d (D.l c ys), V.d (D.i IntKind.i64 n)] []) = interp (rk Tryd.prog pol) (
brB (decide (n < 0))
  (Tr.call (Task.call 68 [V.d (D.i IntKind.i64 (IntKind.i64.wrap (0 - n)))] []) fun (o_0 : Out) =>
    ift o_0.snd.isEmpty
      (asD o_0.fst fun (d_1 : D) =>
        asL d_1 fun (b_2 : Bool) (l_3 : List D) =>
          Tr.call (Task.call 67 [V.d (D.l b xs), V.d (D.l b_2 l_3)] []) fun (o_4 : Out) =>
            ift o_4.snd.isEmpty
              (asD o_4.fst fun (d_5 : D) =>
                asL d_5 fun (b_6 : Bool) (l_7 : List D) =>
                  Tr.call (Task.call 66 [V.d (D.l b_6 l_7), V.d (D.l c ys)] []) fun (o_8 : Out) =>
                    ift o_8.snd.isEmpty (asD o_8.fst fun (d_9 : D) => asI IntKind.i64 d_9 fun (n_10 : Int) => Tr.ret (V.d (D.b (decide (n_10 < 0))), [])))))
  (Tr.call (Task.call 68 [V.d (D.i IntKind.i64 n)] []) fun (o_11 : Out) =>
    ift o_11.snd.isEmpty
      (asD o_11.fst fun (d_12 : D) =>
        asL d_12 fun (b_13 : Bool) (l_14 : List D) =>
          Tr.call (Task.call 67 [V.d (D.l c ys), V.d (D.l b_13 l_14)] []) fun (o_15 : Out) =>
            ift o_15.snd.isEmpty
              (asD o_15.fst fun (d_16 : D) =>
                asL d_16 fun (b_17 : Bool) (l_18 : List D) =>
                  Tr.call (Task.call 66 [V.d (D.l b xs), V.d (D.l b_17 l_18)] []) fun (o_19 : Out) =>
                    ift o_19.snd.isEmpty (asD o_19.fst fun (d_20 : D) => asI IntKind.i64 d_20 fun (n_21 : Int) => Tr.ret (V.d (D.b (decide (n_21 < 0))), [])))))) :=
  rk_of (by kernel_rfl)
theorem f37 (b : Bool) (xs : List D) (c : Bool) (ys : List D) (n : Int) :
    rk Tryd.prog pol (Task.call 36 [V.d (D.l b xs), V.d (D.l c ys), V.d (D.i IntKind.i64 n)] []) = interp (rk Tryd.prog pol) (
brB (decide (n < 0))
  (Tr.call (Task.call 68 [V.d (D.i IntKind.i64 (IntKind.i64.wrap (0 - n)))] []) fun (o_0 : Out) =>
    ift o_0.snd.isEmpty
      (asD o_0.fst fun (d_1 : D) =>
        asL d_1 fun (b_2 : Bool) (l_3 : List D) =>
          Tr.call (Task.call 67 [V.d (D.l b xs), V.d (D.l b_2 l_3)] []) fun (o_4 : Out) =>
            ift o_4.snd.isEmpty
              (asD o_4.fst fun (d_5 : D) =>
                asL d_5 fun (b_6 : Bool) (l_7 : List D) =>
                  Tr.call (Task.call 71 [V.d (D.l b_6 l_7), V.d (D.l c ys)] []) fun (o_8 : Out) =>
                    ift o_8.snd.isEmpty (asD o_8.fst fun (d_9 : D) => asL d_9 fun (b_10 : Bool) (l_11 : List D) => Tr.ret (V.d (D.l b_10 l_11), [])))))
  (Tr.call (Task.call 68 [V.d (D.i IntKind.i64 n)] []) fun (o_12 : Out) =>
    ift o_12.snd.isEmpty
      (asD o_12.fst fun (d_13 : D) =>
        asL d_13 fun (b_14 : Bool) (l_15 : List D) =>
          Tr.call (Task.call 67 [V.d (D.l c ys), V.d (D.l b_14 l_15)] []) fun (o_16 : Out) =>
            ift o_16.snd.isEmpty
              (asD o_16.fst fun (d_17 : D) =>
                asL d_17 fun (b_18 : Bool) (l_19 : List D) =>
                  Tr.call (Task.call 71 [V.d (D.l b xs), V.d (D.l b_18 l_19)] []) fun (o_20 : Out) =>
                    ift o_20.snd.isEmpty (asD o_20.fst fun (d_21 : D) => asL d_21 fun (b_22 : Bool) (l_23 : List D) => Tr.ret (V.d (D.l b_22 l_23), [])))))) :=
  rk_of (by kernel_rfl)
theorem f36 (b : Bool) (xs : List D) :
    rk Tryd.prog pol (Task.call 35 [V.d (D.l b xs)] []) = interp (rk Tryd.prog pol) (
Tr.call (Task.call 70 [V.d (D.l b xs)] []) fun (o_0 : Out) =>
  ift o_0.snd.isEmpty
    (asD o_0.fst fun (d_1 : D) =>
      asI IntKind.u64 d_1 fun (n_2 : Int) =>
        Tr.call (Task.call 69 [V.d (D.i IntKind.u64 n_2), V.d (D.i IntKind.i64 10)] []) fun (o_3 : Out) =>
          ift o_3.snd.isEmpty (asD o_3.fst fun (d_4 : D) => asS d_4 fun (l_5 : List UInt8) => Tr.ret (V.d (D.s l_5), [])))) :=
  rk_of (by kernel_rfl)
theorem f13 (s : List UInt8) :
    rk Tryd.prog pol (Task.call 87 [V.d (D.s s)] []) = interp (rk Tryd.prog pol) (
Tr.call (Task.call 109 [V.d (D.s s)] []) fun (o_0 : Out) =>
  ift o_0.snd.isEmpty
    (unT o_0.fst fun (l_1 : List V) =>
      ift (l_1.length == 2)
        (asD (l_1.getD 0 (V.d (D.b false))) fun (d_2 : D) =>
          asG 5 d_2 fun (l_3 : List D) =>
            asD (l_1.getD 1 (V.d (D.b false))) fun (d_4 : D) =>
              asB d_4 fun (b_5 : Bool) =>
                ift ([V.d (l_3.getD 0 (D.b false)), V.d (l_3.getD 1 (D.b false)), V.d (l_3.getD 2 (D.b false)), V.d (l_3.getD 3 (D.b false)), V.d (l_3.getD 4 (D.b false))].all V.one)
                  (brB (!b_5) (Tr.ret (V.t [V.d (D.i IntKind.u64 0), V.d (D.i IntKind.i64 2)], []))
                    (asS (l_3.getD 1 (D.b false)) fun (l_6 : List UInt8) =>
                      asS (l_3.getD 2 (D.b false)) fun (l_7 : List UInt8) =>
                        brB (decide (IntKind.i64.wrap ((↑l_6.length : Int) + (↑l_7.length : Int)) > 60)) (Tr.ret (V.t [V.d (D.i IntKind.u64 0), V.d (D.i IntKind.i64 4)], []))
                          (Tr.call (Task.call 110 [V.d (D.g [l_3.getD 0 (D.b false), l_3.getD 1 (D.b false), l_3.getD 2 (D.b false), l_3.getD 3 (D.b false), l_3.getD 4 (D.b false)])] [])
                            fun (o_8 : Out) =>
                            ift o_8.snd.isEmpty
                              (unT o_8.fst fun (l_9 : List V) =>
                                ift (l_9.length == 2)
                                  (asD (l_9.getD 0 (V.d (D.b false))) fun (d_10 : D) =>
                                    asI IntKind.i64 d_10 fun (n_11 : Int) =>
                                      asD (l_9.getD 1 (V.d (D.b false))) fun (d_12 : D) =>
                                        asB d_12 fun (b_13 : Bool) =>
                                          brB (!b_13) (Tr.ret (V.t [V.d (D.i IntKind.u64 0), V.d (D.i IntKind.i64 5)], []))
                                            (asS (l_3.getD 2 (D.b false)) fun (l_14 : List UInt8) =>
                                              asS (l_3.getD 1 (D.b false)) fun (l_15 : List UInt8) =>
                                                asS (l_3.getD 2 (D.b false)) fun (l_16 : List UInt8) =>
                                                  ift (decide (l_15.length + l_16.length < 4611686018427387904))
                                                    (Tr.call (Task.call 111 [V.d (D.s (l_15 ++ l_16))] []) fun (o_17 : Out) =>
                                                      ift o_17.snd.isEmpty
                                                        (asD o_17.fst fun (d_18 : D) =>
                                                          asL d_18 fun (b_19 : Bool) (l_20 : List D) =>
                                                            Tr.call (Task.call 62 [V.d (D.i IntKind.u64 1)] []) fun (o_21 : Out) =>
                                                              ift o_21.snd.isEmpty
                                                                (asD o_21.fst fun (d_22 : D) =>
                                                                  asL d_22 fun (b_23 : Bool) (l_24 : List D) =>
                                                                    brB (decide (IntKind.i64.wrap (n_11 - (↑l_14.length : Int)) > 0))
                                                                      (Tr.call (Task.call 68 [V.d (D.i IntKind.i64 (IntKind.i64.wrap (n_11 - (↑l_14.length : Int))))] []) fun (o_25 : Out) =>
                                                                        ift o_25.snd.isEmpty
                                                                          (asD o_25.fst fun (d_26 : D) =>
                                                                            asL d_26 fun (b_27 : Bool) (l_28 : List D) =>
                                                                              Tr.call (Task.call 67 [V.d (D.l b_19 l_20), V.d (D.l b_27 l_28)] []) fun (o_29 : Out) =>
                                                                                ift o_29.snd.isEmpty
                                                                                  (asD o_29.fst fun (d_30 : D) =>
                                                                                    asL d_30 fun (b_31 : Bool) (l_32 : List D) =>
                                                                                      Tr.call
                                                                                        (Task.at_ 87 0 [true, true, true, true, true, true, true, true]
                                                                                          (sv 68 [(4, V.p 0 0), (7, V.d (D.l b_31 l_32)), (8, V.d (D.l b_23 l_24))]) []
                                                                                          [Ob.cells
                                                                                              [V.d (l_3.getD 0 (D.b false)), V.d (l_3.getD 1 (D.b false)), V.d (l_3.getD 2 (D.b false)),
                                                                                                V.d (l_3.getD 3 (D.b false)), V.d (l_3.getD 4 (D.b false))]
                                                                                              []])
                                                                                        Tr.ret)))
                                                                      (Tr.call (Task.call 68 [V.d (D.i IntKind.i64 (IntKind.i64.wrap (0 - IntKind.i64.wrap (n_11 - (↑l_14.length : Int)))))] [])
                                                                        fun (o_33 : Out) =>
                                                                        ift o_33.snd.isEmpty
                                                                          (asD o_33.fst fun (d_34 : D) =>
                                                                            asL d_34 fun (b_35 : Bool) (l_36 : List D) =>
                                                                              Tr.call
                                                                                (Task.at_ 87 0 [true, true, true, true, true, true, true, true]
                                                                                  (sv 68 [(4, V.p 0 0), (7, V.d (D.l b_19 l_20)), (8, V.d (D.l b_35 l_36))]) []
                                                                                  [Ob.cells
                                                                                      [V.d (l_3.getD 0 (D.b false)), V.d (l_3.getD 1 (D.b false)), V.d (l_3.getD 2 (D.b false)),
                                                                                        V.d (l_3.getD 3 (D.b false)), V.d (l_3.getD 4 (D.b false))]
                                                                                      []])
                                                                                Tr.ret)))))))))))))) :=
  rk_of (by kernel_rfl)
theorem f15 (q : Int) :
    rk Tryd.prog pol (Task.call 17 [V.d (D.i IntKind.u64 q)] []) = interp (rk Tryd.prog pol) (
brB (IntKind.u64.wrap (↑(BitVec.ofInt IntKind.u64.bits (q.fdiv 4503599627370496) &&& BitVec.ofInt IntKind.u64.bits 2047).toNat : Int) == 2047) (Tr.ret (V.d (D.s []), []))
  (brB (IntKind.u64.wrap (↑(BitVec.ofInt IntKind.u64.bits q &&& BitVec.ofInt IntKind.u64.bits 9223372036854775808).toNat : Int) != 0)
    (Tr.call
      (Task.at_ 17 0 [true, true, true, true]
        (sv 76 [(0, V.d (D.i IntKind.u64 (IntKind.u64.wrap (↑(BitVec.ofInt IntKind.u64.bits q &&& ~~~BitVec.ofInt IntKind.u64.bits 9223372036854775808).toNat : Int)))), (3, V.d (D.s [45]))]) [] [])
      Tr.ret)
    (Tr.call (Task.at_ 17 0 [true, true, true, true] (sv 76 [(0, V.d (D.i IntKind.u64 q)), (3, V.d (D.s []))]) [] []) Tr.ret))) :=
  rk_of (by kernel_rfl)
theorem f48_at19 (l_0 : List UInt8) (n_1 : Int) :
    rk Tryd.prog pol (Task.at_ 128 0 [false, false, true, true] (sv 29 [(0, V.d (D.s l_0)), (4, V.d (D.i IntKind.i64 n_1))]) [] []) = interp (rk Tryd.prog pol) (
brB (decide (n_1 < (↑l_0.length : Int)))
  (ob (getI l_0 n_1) fun (c_0 : UInt8) =>
    brB (decide ((↑c_0.toNat : Int) ≥ 48))
      (ob (getI l_0 n_1) fun (c_1 : UInt8) =>
        Tr.call (Task.at_ 128 0 [true, false, false, false, false, true, true] (sv 29 [(0, V.d (D.s l_0)), (4, V.d (D.i IntKind.i64 n_1)), (20, V.d (D.b (decide ((↑c_1.toNat : Int) ≤ 57))))]) [] [])
          Tr.ret)
      (Tr.call (Task.at_ 128 0 [true, false, false, false, false, true, true] (sv 29 [(0, V.d (D.s l_0)), (4, V.d (D.i IntKind.i64 n_1)), (20, V.d (D.b false))]) [] []) Tr.ret))
  (Tr.call (Task.at_ 128 0 [true, false, false, false, false, true, true] (sv 29 [(0, V.d (D.s l_0)), (4, V.d (D.i IntKind.i64 n_1)), (20, V.d (D.b false))]) [] []) Tr.ret)) :=
  rk_of (by kernel_rfl)
theorem f47_at13 (l_0 : List UInt8) (b_1 : Bool) :
    rk Tryd.prog pol (Task.at_ 127 0 [true, false, true] (sv 22 [(0, V.d (D.s l_0)), (15, V.d (D.b b_1))]) [] []) = interp (rk Tryd.prog pol) (
brB b_1
  (ob (getI l_0 0) fun (c_0 : UInt8) =>
    ift (decide ((0 : Int) ≤ 1 ∧ 1 ≤ (↑l_0.length : Int))) (Tr.ret (V.t [V.d (D.b ((↑c_0.toNat : Int) == 45)), V.d (D.s (List.take (l_0.length - 1) (List.drop 1 l_0)))], [])))
  (Tr.ret (V.t [V.d (D.b false), V.d (D.s l_0)], []))) :=
  rk_of (by kernel_rfl)
theorem f20_at55 (l_0 : List UInt8) (b_1 : Bool) (b_2 : Bool) (l_3 : List UInt8) (l_4 : List UInt8) (b_5 : Bool) (l_6 : List UInt8) :
    rk Tryd.prog pol (Task.at_ 109 0 [true, false, true, true, true] (sv 76 [(0, V.d (D.s l_0)), (2, V.p 0 0), (22, V.d (D.b b_1))]) []
  [Ob.cells [V.d (D.b b_2), V.d (D.s l_3), V.d (D.s l_4), V.d (D.b b_5), V.d (D.s l_6)] []]) = interp (rk Tryd.prog pol) (
brB b_1
  (ift (decide ((0 : Int) ≤ 1 ∧ 1 ≤ (↑l_0.length : Int)))
    (Tr.call (Task.call 128 [V.d (D.s (List.take (l_0.length - 1) (List.drop 1 l_0)))] []) fun (o_0 : Out) =>
      ift o_0.snd.isEmpty
        (unT o_0.fst fun (l_1 : List V) =>
          ift (l_1.length == 2)
            (asD (l_1.getD 0 (V.d (D.b false))) fun (d_2 : D) =>
              asS d_2 fun (l_3_1 : List UInt8) =>
                asD (l_1.getD 1 (V.d (D.b false))) fun (d_4 : D) =>
                  asS d_4 fun (l_5 : List UInt8) =>
                    brB (l_3_1 == []) (Tr.ret (V.t [V.d (D.g [D.b b_2, D.s l_3, D.s l_3_1, D.b b_5, D.s l_6]), V.d (D.b false)], []))
                      (brB (l_3 == [])
                        (Tr.call
                          (Task.at_ 109 0 [true, false, true, true, true, true] (sv 76 [(0, V.d (D.s l_5)), (2, V.p 0 0), (41, V.d (D.b (l_3_1 == [])))]) []
                            [Ob.cells [V.d (D.b b_2), V.d (D.s l_3), V.d (D.s l_3_1), V.d (D.b b_5), V.d (D.s l_6)] []])
                          Tr.ret)
                        (Tr.call
                          (Task.at_ 109 0 [true, false, true, true, true, true] (sv 76 [(0, V.d (D.s l_5)), (2, V.p 0 0), (41, V.d (D.b false))]) []
                            [Ob.cells [V.d (D.b b_2), V.d (D.s l_3), V.d (D.s l_3_1), V.d (D.b b_5), V.d (D.s l_6)] []])
                          Tr.ret))))))
  (brB (l_3 == [])
    (Tr.call
      (Task.at_ 109 0 [true, false, true, true, true, true] (sv 76 [(0, V.d (D.s l_0)), (2, V.p 0 0), (41, V.d (D.b (l_4 == [])))]) []
        [Ob.cells [V.d (D.b b_2), V.d (D.s l_3), V.d (D.s l_4), V.d (D.b b_5), V.d (D.s l_6)] []])
      Tr.ret)
    (Tr.call
      (Task.at_ 109 0 [true, false, true, true, true, true] (sv 76 [(0, V.d (D.s l_0)), (2, V.p 0 0), (41, V.d (D.b false))]) []
        [Ob.cells [V.d (D.b b_2), V.d (D.s l_3), V.d (D.s l_4), V.d (D.b b_5), V.d (D.s l_6)] []])
      Tr.ret))) :=
  rk_of (by kernel_rfl)
theorem f22_at43 (l_0 : List UInt8) (b_1 : Bool) (l_2 : List D) (l_3 : List UInt8) :
    rk Tryd.prog pol (Task.at_ 111 0 [false, true, false, true, true] (sv 21 [(0, V.d (D.s l_0)), (3, V.d (D.l b_1 l_2)), (6, V.it 0)]) [(3, 1)] [Ob.iter l_3 0]) = interp (rk Tryd.prog pol) (
brB (decide (0 < l_3.length))
  (Tr.call (Task.call 62 [V.d (D.i IntKind.u64 10)] []) fun (o_0 : Out) =>
    ift o_0.snd.isEmpty
      (asD o_0.fst fun (d_1 : D) =>
        asL d_1 fun (b_2 : Bool) (l_3_1 : List D) =>
          Tr.call (Task.call 67 [V.d (D.l b_1 l_2), V.d (D.l b_2 l_3_1)] []) fun (o_4 : Out) =>
            ift o_4.snd.isEmpty
              (asD o_4.fst fun (d_5 : D) =>
                asL d_5 fun (b_6 : Bool) (l_7 : List D) =>
                  ob (getI l_0 0) fun (c_8 : UInt8) =>
                    Tr.call (Task.call 62 [V.d (D.i IntKind.u64 (IntKind.u64.wrap (IntKind.u8.wrap ((↑c_8.toNat : Int) - 48))))] []) fun (o_9 : Out) =>
                      ift o_9.snd.isEmpty
                        (asD o_9.fst fun (d_10 : D) =>
                          asL d_10 fun (b_11 : Bool) (l_12 : List D) =>
                            Tr.call (Task.call 100 [V.d (D.l b_6 l_7), V.d (D.l b_11 l_12)] []) fun (o_13 : Out) =>
                              ift o_13.snd.isEmpty
                                (asD o_13.fst fun (d_14 : D) =>
                                  asL d_14 fun (b_15 : Bool) (l_16 : List D) =>
                                    Tr.call
                                      (Task.at_ 111 0 [false, true, false, true, true] (sv 21 [(0, V.d (D.s l_0)), (3, V.d (D.l b_15 l_16)), (6, V.it 0)]) []
                                        [Ob.iter l_3 (0 + (Utf8.decode (ByteArray.mk l_3.toArray) 0).snd)])
                                      Tr.ret)))))
  (Tr.ret (V.d (D.l b_1 l_2), []))) :=
  rk_of (by kernel_rfl)
theorem f21_at175 (l_0 : List UInt8) (n_1 : Int) (l_2 : List UInt8) (b_3 : Bool) (l_4 : List UInt8) (l_5 : List UInt8) (b_6 : Bool) (l_7 : List UInt8) :
    rk Tryd.prog pol (Task.at_ 110 0 [false, true, false, true, true, true, true] (sv 37 [(1, V.p 0 0), (4, V.d (D.s l_0)), (5, V.d (D.i IntKind.i64 n_1)), (14, V.it 1)]) []
  [Ob.iter l_2 0, Ob.cells [V.d (D.b b_3), V.d (D.s l_4), V.d (D.s l_5), V.d (D.b b_6), V.d (D.s l_7)] []]) = interp (rk Tryd.prog pol) (
brB (decide (0 < l_2.length))
  (ob (getI l_0 0) fun (c_0 : UInt8) =>
    Tr.call
      (Task.at_ 110 0 [false, true, false, true, true, true, true]
        (sv 37
          [(1, V.p 0 0), (4, V.d (D.s l_0)), (5, V.d (D.i IntKind.i64 (IntKind.i64.wrap (IntKind.i64.wrap (10 * n_1) + IntKind.i64.wrap (IntKind.u8.wrap ((↑c_0.toNat : Int) - 48)))))), (14, V.it 1)])
        [] [Ob.iter l_2 (0 + (Utf8.decode (ByteArray.mk l_2.toArray) 0).snd), Ob.cells [V.d (D.b b_3), V.d (D.s l_4), V.d (D.s l_5), V.d (D.b b_6), V.d (D.s l_7)] []])
      Tr.ret)
  (brB b_6 (Tr.call (Task.at_ 110 0 [true, true, true, true, true, true] (sv 37 [(5, V.d (D.i IntKind.i64 (IntKind.i64.wrap (0 - n_1))))]) [] []) Tr.ret)
    (Tr.call (Task.at_ 110 0 [true, true, true, true, true, true] (sv 37 [(5, V.d (D.i IntKind.i64 n_1))]) [] []) Tr.ret))) :=
  rk_of (by kernel_rfl)
theorem f54_at55 (b_0 : Bool) (l_1 : List D) (b_2 : Bool) :
    rk Tryd.prog pol (Task.at_ 71 0 [true, false, true, true, true] (sv 36 [(5, V.d (D.l b_0 l_1)), (31, V.d (D.b b_2))]) [] []) = interp (rk Tryd.prog pol) (
brB b_2
  (Tr.call (Task.call 62 [V.d (D.i IntKind.u64 1)] []) fun (o_0 : Out) =>
    ift o_0.snd.isEmpty
      (asD o_0.fst fun (d_1 : D) =>
        asL d_1 fun (b_2 : Bool) (l_3 : List D) =>
          Tr.call (Task.call 100 [V.d (D.l b_0 l_1), V.d (D.l b_2 l_3)] []) fun (o_4 : Out) =>
            ift o_4.snd.isEmpty (asD o_4.fst fun (d_5 : D) => asL d_5 fun (b_6 : Bool) (l_7 : List D) => Tr.ret (V.d (D.l b_6 l_7), []))))
  (Tr.ret (V.d (D.l b_0 l_1), []))) :=
  rk_of (by kernel_rfl)
theorem f26_at23 (b_0 : Bool) (l_1 : List D) (b_2 : Bool) (l_3 : List D) (n_4 : Int) :
    rk Tryd.prog pol (Task.at_ 112 0 [false, true, true, true] (sv 46 [(0, V.d (D.l b_0 l_1)), (1, V.d (D.l b_2 l_3)), (6, V.d (D.i IntKind.i64 n_4))]) [] []) = interp (rk Tryd.prog pol) (
brB (decide (n_4 < 0))
  (Tr.call (Task.call 63 [V.d (D.l b_0 l_1), V.d (D.i IntKind.i64 (IntKind.i64.wrap (0 - n_4)))] []) fun (o_0 : Out) =>
    ift o_0.snd.isEmpty
      (asD o_0.fst fun (d_1 : D) =>
        asL d_1 fun (b_2_1 : Bool) (l_3_1 : List D) =>
          Tr.call
            (Task.at_ 112 0 [true, true, false, false, false, true, true, true]
              (sv 46 [(0, V.d (D.l b_0 l_1)), (1, V.d (D.l b_2 l_3)), (6, V.d (D.i IntKind.i64 n_4)), (7, V.d (D.l b_2_1 l_3_1)), (8, V.d (D.l b_2 l_3))]) [] [])
            Tr.ret))
  (Tr.call (Task.call 63 [V.d (D.l b_2 l_3), V.d (D.i IntKind.i64 n_4)] []) fun (o_4 : Out) =>
    ift o_4.snd.isEmpty
      (asD o_4.fst fun (d_5 : D) =>
        asL d_5 fun (b_6 : Bool) (l_7 : List D) =>
          Tr.call
            (Task.at_ 112 0 [true, true, false, false, false, true, true, true]
              (sv 46 [(0, V.d (D.l b_0 l_1)), (1, V.d (D.l b_2 l_3)), (6, V.d (D.i IntKind.i64 n_4)), (7, V.d (D.l b_0 l_1)), (8, V.d (D.l b_6 l_7))]) [] [])
            Tr.ret))) :=
  rk_of (by kernel_rfl)
theorem f33_at15 (n_0 : Int) (n_1 : Int) :
    rk Tryd.prog pol (Task.at_ 32 0 [true, true, true] (sv 34 [(4, V.d (D.i IntKind.u64 n_0)), (5, V.d (D.i IntKind.i64 n_1))]) [] []) = interp (rk Tryd.prog pol) (
brB (decide (n_1 < 0))
  (Tr.call (Task.call 62 [V.d (D.i IntKind.u64 n_0)] []) fun (o_0 : Out) =>
    ift o_0.snd.isEmpty
      (asD o_0.fst fun (d_1 : D) =>
        asL d_1 fun (b_2 : Bool) (l_3 : List D) =>
          Tr.call (Task.call 62 [V.d (D.i IntKind.u64 1)] []) fun (o_4 : Out) =>
            ift o_4.snd.isEmpty
              (asD o_4.fst fun (d_5 : D) =>
                asL d_5 fun (b_6 : Bool) (l_7 : List D) =>
                  Tr.call (Task.call 63 [V.d (D.l b_6 l_7), V.d (D.i IntKind.i64 (IntKind.i64.wrap (0 - n_1)))] []) fun (o_8 : Out) =>
                    ift o_8.snd.isEmpty (asD o_8.fst fun (d_9 : D) => asL d_9 fun (b_10 : Bool) (l_11 : List D) => Tr.ret (V.t [V.d (D.l b_2 l_3), V.d (D.l b_10 l_11)], [])))))
  (Tr.call (Task.call 62 [V.d (D.i IntKind.u64 n_0)] []) fun (o_12 : Out) =>
    ift o_12.snd.isEmpty
      (asD o_12.fst fun (d_13 : D) =>
        asL d_13 fun (b_14 : Bool) (l_15 : List D) =>
          Tr.call (Task.call 63 [V.d (D.l b_14 l_15), V.d (D.i IntKind.i64 n_1)] []) fun (o_16 : Out) =>
            ift o_16.snd.isEmpty
              (asD o_16.fst fun (d_17 : D) =>
                asL d_17 fun (b_18 : Bool) (l_19 : List D) =>
                  Tr.call (Task.call 62 [V.d (D.i IntKind.u64 1)] []) fun (o_20 : Out) =>
                    ift o_20.snd.isEmpty (asD o_20.fst fun (d_21 : D) => asL d_21 fun (b_22 : Bool) (l_23 : List D) => Tr.ret (V.t [V.d (D.l b_18 l_19), V.d (D.l b_22 l_23)], [])))))) :=
  rk_of (by kernel_rfl)
theorem f13_at511 (b_0 : Bool) (l_1 : List D) (b_2 : Bool) (l_3 : List D) (d_4 : D) (d_5 : D) (d_6 : D) (d_7 : D) (d_8 : D) :
    rk Tryd.prog pol (Task.at_ 87 0 [true, true, true, true, true, true, true, true] (sv 68 [(4, V.p 0 0), (7, V.d (D.l b_0 l_1)), (8, V.d (D.l b_2 l_3))]) [] [Ob.cells [V.d d_4, V.d d_5, V.d d_6, V.d d_7, V.d d_8] []]) = interp (rk Tryd.prog pol) (
Tr.call (Task.call 112 [V.d (D.l b_0 l_1), V.d (D.l b_2 l_3)] []) fun (o_0 : Out) =>
  ift o_0.snd.isEmpty
    (unT o_0.fst fun (l_1 : List V) =>
      ift (l_1.length == 2)
        (asD (l_1.getD 0 (V.d (D.b false))) fun (d_2 : D) =>
          asI IntKind.u64 d_2 fun (n_3 : Int) =>
            asD (l_1.getD 1 (V.d (D.b false))) fun (d_4_1 : D) =>
              asB d_4_1 fun (b_5 : Bool) =>
                brB (!b_5) (Tr.ret (V.t [V.d (D.i IntKind.u64 0), V.d (D.i IntKind.i64 5)], []))
                  (asB d_4 fun (b_6 : Bool) =>
                    brB b_6
                      (Tr.call
                        (Task.at_ 87 0 [true, true, true, true, true, true, true, true, true, true, true]
                          (sv 68 [(9, V.d (D.i IntKind.u64 (IntKind.u64.wrap (↑(BitVec.ofInt IntKind.u64.bits n_3 ||| BitVec.ofInt IntKind.u64.bits 9223372036854775808).toNat : Int))))]) [] [])
                        Tr.ret)
                      (Tr.call (Task.at_ 87 0 [true, true, true, true, true, true, true, true, true, true, true] (sv 68 [(9, V.d (D.i IntKind.u64 n_3))]) [] []) Tr.ret))))) :=
  rk_of (by kernel_rfl)
theorem f15_at31 (n_0 : Int) (l_1 : List UInt8) :
    rk Tryd.prog pol (Task.at_ 17 0 [true, true, true, true] (sv 76 [(0, V.d (D.i IntKind.u64 n_0)), (3, V.d (D.s l_1))]) [] []) = interp (rk Tryd.prog pol) (
brB (n_0 == 0) (ift (decide (l_1.length + 5 < 4611686018427387904)) (Tr.ret (V.d (D.s (l_1 ++ [48, 46, 48, 101, 48])), [])))
  (Tr.call (Task.call 32 [V.d (D.i IntKind.u64 n_0)] []) fun (o_0 : Out) =>
    ift o_0.snd.isEmpty
      (unT o_0.fst fun (l_1_1 : List V) =>
        ift (l_1_1.length == 2)
          (asD (l_1_1.getD 0 (V.d (D.b false))) fun (d_2 : D) =>
            asL d_2 fun (b_3 : Bool) (l_4 : List D) =>
              asD (l_1_1.getD 1 (V.d (D.b false))) fun (d_5 : D) =>
                asL d_5 fun (b_6 : Bool) (l_7 : List D) =>
                  Tr.call (Task.call 33 [V.d (D.l b_3 l_4)] []) fun (o_8 : Out) =>
                    ift o_8.snd.isEmpty
                      (asD o_8.fst fun (d_9 : D) =>
                        asI IntKind.i64 d_9 fun (n_10 : Int) =>
                          Tr.call (Task.call 33 [V.d (D.l b_6 l_7)] []) fun (o_11 : Out) =>
                            ift o_11.snd.isEmpty
                              (asD o_11.fst fun (d_12 : D) =>
                                asI IntKind.i64 d_12 fun (n_13 : Int) =>
                                  Tr.call
                                    (Task.at_ 17 0 [false, false, true, true, true, true, true, true, true]
                                      (sv 76
                                        [(3, V.d (D.s l_1)), (4, V.d (D.l b_3 l_4)), (5, V.d (D.l b_6 l_7)),
                                          (6, V.d (D.i IntKind.i64 (IntKind.i64.wrap (IntKind.i64.wrap ((IntKind.i64.wrap (IntKind.i64.wrap (n_10 - n_13) * 30103)).tdiv 100000) + 1))))])
                                      [] [])
                                    Tr.ret)))))) :=
  rk_of (by kernel_rfl)
theorem f48_at195 (l_0 : List UInt8) (n_1 : Int) (b_2 : Bool) :
    rk Tryd.prog pol (Task.at_ 128 0 [true, false, false, false, false, true, true] (sv 29 [(0, V.d (D.s l_0)), (4, V.d (D.i IntKind.i64 n_1)), (20, V.d (D.b b_2))]) [] []) = interp (rk Tryd.prog pol) (
brB b_2 (Tr.call (Task.at_ 128 0 [false, false, true, true] (sv 29 [(0, V.d (D.s l_0)), (4, V.d (D.i IntKind.i64 (IntKind.i64.wrap (n_1 + 1))))]) [] []) Tr.ret)
  (ift (decide (0 ≤ n_1 ∧ n_1 ≤ (↑l_0.length : Int)))
    (ift (decide (0 ≤ n_1 ∧ n_1 ≤ (↑l_0.length : Int)))
      (Tr.ret (V.t [V.d (D.s (List.take (n_1.toNat - 0) (List.drop 0 l_0))), V.d (D.s (List.take (l_0.length - n_1.toNat) (List.drop n_1.toNat l_0)))], []))))) :=
  rk_of (by kernel_rfl)
theorem f20_at111 (l_0 : List UInt8) (b_1 : Bool) (b_2 : Bool) (l_3 : List UInt8) (l_4 : List UInt8) (b_5 : Bool) (l_6 : List UInt8) :
    rk Tryd.prog pol (Task.at_ 109 0 [true, false, true, true, true, true] (sv 76 [(0, V.d (D.s l_0)), (2, V.p 0 0), (41, V.d (D.b b_1))]) []
  [Ob.cells [V.d (D.b b_2), V.d (D.s l_3), V.d (D.s l_4), V.d (D.b b_5), V.d (D.s l_6)] []]) = interp (rk Tryd.prog pol) (
brB b_1 (Tr.ret (V.t [V.d (D.g [D.b b_2, D.s l_3, D.s l_4, D.b b_5, D.s l_6]), V.d (D.b false)], []))
  (brB (l_0 == []) (Tr.ret (V.t [V.d (D.g [D.b b_2, D.s l_3, D.s l_4, D.b b_5, D.s l_6]), V.d (D.b true)], []))
    (ob (getI l_0 0) fun (c_0 : UInt8) =>
      brB ((↑c_0.toNat : Int) != 101)
        (ob (getI l_0 0) fun (c_1 : UInt8) =>
          Tr.call
            (Task.at_ 109 0 [true, false, true, true, true, true, true, true] (sv 76 [(0, V.d (D.s l_0)), (2, V.p 0 0), (53, V.d (D.b ((↑c_1.toNat : Int) != 69)))]) []
              [Ob.cells [V.d (D.b b_2), V.d (D.s l_3), V.d (D.s l_4), V.d (D.b b_5), V.d (D.s l_6)] []])
            Tr.ret)
        (Tr.call
          (Task.at_ 109 0 [true, false, true, true, true, true, true, true] (sv 76 [(0, V.d (D.s l_0)), (2, V.p 0 0), (53, V.d (D.b false))]) []
            [Ob.cells [V.d (D.b b_2), V.d (D.s l_3), V.d (D.s l_4), V.d (D.b b_5), V.d (D.s l_6)] []])
          Tr.ret)))) :=
  rk_of (by kernel_rfl)
theorem f22_at43_1 (l_0 : List UInt8) (b_1 : Bool) (l_2 : List D) (l_3 : List UInt8) (m_4 : Nat) :
    rk Tryd.prog pol (Task.at_ 111 0 [false, true, false, true, true] (sv 21 [(0, V.d (D.s l_0)), (3, V.d (D.l b_1 l_2)), (6, V.it 0)]) [] [Ob.iter l_3 m_4]) = interp (rk Tryd.prog pol) (
brB (decide (m_4 < l_3.length))
  (Tr.call (Task.call 62 [V.d (D.i IntKind.u64 10)] []) fun (o_0 : Out) =>
    ift o_0.snd.isEmpty
      (asD o_0.fst fun (d_1 : D) =>
        asL d_1 fun (b_2 : Bool) (l_3_1 : List D) =>
          Tr.call (Task.call 67 [V.d (D.l b_1 l_2), V.d (D.l b_2 l_3_1)] []) fun (o_4 : Out) =>
            ift o_4.snd.isEmpty
              (asD o_4.fst fun (d_5 : D) =>
                asL d_5 fun (b_6 : Bool) (l_7 : List D) =>
                  ob (getI l_0 (↑m_4 : Int)) fun (c_8 : UInt8) =>
                    Tr.call (Task.call 62 [V.d (D.i IntKind.u64 (IntKind.u64.wrap (IntKind.u8.wrap ((↑c_8.toNat : Int) - 48))))] []) fun (o_9 : Out) =>
                      ift o_9.snd.isEmpty
                        (asD o_9.fst fun (d_10 : D) =>
                          asL d_10 fun (b_11 : Bool) (l_12 : List D) =>
                            Tr.call (Task.call 100 [V.d (D.l b_6 l_7), V.d (D.l b_11 l_12)] []) fun (o_13 : Out) =>
                              ift o_13.snd.isEmpty
                                (asD o_13.fst fun (d_14 : D) =>
                                  asL d_14 fun (b_15 : Bool) (l_16 : List D) =>
                                    Tr.call
                                      (Task.at_ 111 0 [false, true, false, true, true] (sv 21 [(0, V.d (D.s l_0)), (3, V.d (D.l b_15 l_16)), (6, V.it 0)]) []
                                        [Ob.iter l_3 (m_4 + (Utf8.decode (ByteArray.mk l_3.toArray) m_4).snd)])
                                      Tr.ret)))))
  (Tr.ret (V.d (D.l b_1 l_2), []))) :=
  rk_of (by kernel_rfl)
theorem f21_at175_1 (l_0 : List UInt8) (n_1 : Int) (l_2 : List UInt8) (m_3 : Nat) (b_4 : Bool) (l_5 : List UInt8) (l_6 : List UInt8) (b_7 : Bool) (l_8 : List UInt8) :
    rk Tryd.prog pol (Task.at_ 110 0 [false, true, false, true, true, true, true] (sv 37 [(1, V.p 0 0), (4, V.d (D.s l_0)), (5, V.d (D.i IntKind.i64 n_1)), (14, V.it 1)]) []
  [Ob.iter l_2 m_3, Ob.cells [V.d (D.b b_4), V.d (D.s l_5), V.d (D.s l_6), V.d (D.b b_7), V.d (D.s l_8)] []]) = interp (rk Tryd.prog pol) (
brB (decide (m_3 < l_2.length))
  (ob (getI l_0 (↑m_3 : Int)) fun (c_0 : UInt8) =>
    Tr.call
      (Task.at_ 110 0 [false, true, false, true, true, true, true]
        (sv 37
          [(1, V.p 0 0), (4, V.d (D.s l_0)), (5, V.d (D.i IntKind.i64 (IntKind.i64.wrap (IntKind.i64.wrap (10 * n_1) + IntKind.i64.wrap (IntKind.u8.wrap ((↑c_0.toNat : Int) - 48)))))), (14, V.it 1)])
        [] [Ob.iter l_2 (m_3 + (Utf8.decode (ByteArray.mk l_2.toArray) m_3).snd), Ob.cells [V.d (D.b b_4), V.d (D.s l_5), V.d (D.s l_6), V.d (D.b b_7), V.d (D.s l_8)] []])
      Tr.ret)
  (brB b_7 (Tr.call (Task.at_ 110 0 [true, true, true, true, true, true] (sv 37 [(5, V.d (D.i IntKind.i64 (IntKind.i64.wrap (0 - n_1))))]) [] []) Tr.ret)
    (Tr.call (Task.at_ 110 0 [true, true, true, true, true, true] (sv 37 [(5, V.d (D.i IntKind.i64 n_1))]) [] []) Tr.ret))) :=
  rk_of (by kernel_rfl)
theorem f21_at127 (n_0 : Int) :
    rk Tryd.prog pol (Task.at_ 110 0 [true, true, true, true, true, true] (sv 37 [(5, V.d (D.i IntKind.i64 n_0))]) [] []) = interp (rk Tryd.prog pol) (
brB (decide (n_0 ≥ -400)) (Tr.ret (V.t [V.d (D.i IntKind.i64 n_0), V.d (D.b (decide (n_0 ≤ 400)))], [])) (Tr.ret (V.t [V.d (D.i IntKind.i64 n_0), V.d (D.b false)], []))) :=
  rk_of (by kernel_rfl)
theorem f26_at455 (b_0 : Bool) (l_1 : List D) (b_2 : Bool) (l_3 : List D) (n_4 : Int) (b_5 : Bool) (l_6 : List D) (b_7 : Bool) (l_8 : List D) :
    rk Tryd.prog pol (Task.at_ 112 0 [true, true, false, false, false, true, true, true]
  (sv 46 [(0, V.d (D.l b_0 l_1)), (1, V.d (D.l b_2 l_3)), (6, V.d (D.i IntKind.i64 n_4)), (7, V.d (D.l b_5 l_6)), (8, V.d (D.l b_7 l_8))]) [] []) = interp (rk Tryd.prog pol) (
Tr.call (Task.call 71 [V.d (D.l b_5 l_6), V.d (D.l b_7 l_8)] []) fun (o_0 : Out) =>
  ift o_0.snd.isEmpty
    (asD o_0.fst fun (d_1 : D) =>
      asL d_1 fun (b_2_1 : Bool) (l_3_1 : List D) =>
        Tr.call (Task.call 33 [V.d (D.l b_2_1 l_3_1)] []) fun (o_4 : Out) =>
          ift o_4.snd.isEmpty
            (asD o_4.fst fun (d_5 : D) =>
              asI IntKind.i64 d_5 fun (n_6 : Int) =>
                brB (decide (n_6 ≤ 53))
                  (Tr.call (Task.call 70 [V.d (D.l b_2_1 l_3_1)] []) fun (o_7 : Out) =>
                    ift o_7.snd.isEmpty
                      (asD o_7.fst fun (d_8 : D) =>
                        asI IntKind.u64 d_8 fun (n_9 : Int) =>
                          Tr.call (Task.call 129 [V.d (D.i IntKind.u64 n_9), V.d (D.i IntKind.i64 n_4)] []) fun (o_10 : Out) =>
                            ift o_10.snd.isEmpty
                              (unT o_10.fst fun (l_11 : List V) =>
                                ift (l_11.length == 2)
                                  (asD (l_11.getD 0 (V.d (D.b false))) fun (d_12 : D) =>
                                    asI IntKind.u64 d_12 fun (n_13 : Int) =>
                                      asD (l_11.getD 1 (V.d (D.b false))) fun (d_14 : D) => asB d_14 fun (b_15 : Bool) => Tr.ret (V.t [V.d (D.i IntKind.u64 n_13), V.d (D.b b_15)], [])))))
                  (Tr.call (Task.at_ 112 0 [false, true, true, true] (sv 46 [(0, V.d (D.l b_0 l_1)), (1, V.d (D.l b_2 l_3)), (6, V.d (D.i IntKind.i64 (IntKind.i64.wrap (n_4 + 1))))]) [] []) Tr.ret)))) :=
  rk_of (by kernel_rfl)
theorem f13_at4095 (n_0 : Int) :
    rk Tryd.prog pol (Task.at_ 87 0 [true, true, true, true, true, true, true, true, true, true, true] (sv 68 [(9, V.d (D.i IntKind.u64 n_0))]) [] []) = interp (rk Tryd.prog pol) (
Tr.ret (V.t [V.d (D.i IntKind.u64 n_0), V.d (D.i IntKind.i64 0)], [])) :=
  rk_of (by kernel_rfl)
theorem f15_at639 (l_0 : List UInt8) (b_1 : Bool) (l_2 : List D) (b_3 : Bool) (l_4 : List D) (n_5 : Int) :
    rk Tryd.prog pol (Task.at_ 17 0 [false, false, true, true, true, true, true, true, true] (sv 76 [(3, V.d (D.s l_0)), (4, V.d (D.l b_1 l_2)), (5, V.d (D.l b_3 l_4)), (6, V.d (D.i IntKind.i64 n_5))]) [] []) = interp (rk Tryd.prog pol) (
Tr.call (Task.call 34 [V.d (D.l b_1 l_2), V.d (D.l b_3 l_4), V.d (D.i IntKind.i64 n_5)] []) fun (o_0 : Out) =>
  ift o_0.snd.isEmpty
    (asD o_0.fst fun (d_1 : D) =>
      asB d_1 fun (b_2 : Bool) =>
        brB b_2
          (Tr.call
            (Task.at_ 17 0 [false, false, true, true, true, true, true, true, true]
              (sv 76 [(3, V.d (D.s l_0)), (4, V.d (D.l b_1 l_2)), (5, V.d (D.l b_3 l_4)), (6, V.d (D.i IntKind.i64 (IntKind.i64.wrap (n_5 - 1))))]) [] [])
            Tr.ret)
          (Tr.call (Task.call 36 [V.d (D.l b_1 l_2), V.d (D.l b_3 l_4), V.d (D.i IntKind.i64 (IntKind.i64.wrap (IntKind.i64.wrap (n_5 - 17) + 1)))] []) fun (o_3 : Out) =>
            ift o_3.snd.isEmpty
              (asD o_3.fst fun (d_4 : D) =>
                asL d_4 fun (b_5 : Bool) (l_6 : List D) =>
                  Tr.call (Task.call 35 [V.d (D.l b_5 l_6)] []) fun (o_7 : Out) =>
                    ift o_7.snd.isEmpty
                      (asD o_7.fst fun (d_8 : D) =>
                        asS d_8 fun (l_9 : List UInt8) =>
                          brB (decide ((↑l_9.length : Int) > 17))
                            (Tr.call (Task.call 36 [V.d (D.l b_1 l_2), V.d (D.l b_3 l_4), V.d (D.i IntKind.i64 (IntKind.i64.wrap (IntKind.i64.wrap (IntKind.i64.wrap (n_5 + 1) - 17) + 1)))] [])
                              fun (o_10 : Out) =>
                              ift o_10.snd.isEmpty
                                (asD o_10.fst fun (d_11 : D) =>
                                  asL d_11 fun (b_12 : Bool) (l_13 : List D) =>
                                    Tr.call (Task.call 35 [V.d (D.l b_12 l_13)] []) fun (o_14 : Out) =>
                                      ift o_14.snd.isEmpty
                                        (asD o_14.fst fun (d_15 : D) =>
                                          asS d_15 fun (l_16 : List UInt8) =>
                                            Tr.call
                                              (Task.at_ 17 0 [true, true, true, true, true, true, true, true, true, true]
                                                (sv 76 [(3, V.d (D.s l_0)), (6, V.d (D.i IntKind.i64 (IntKind.i64.wrap (n_5 + 1)))), (7, V.d (D.s l_16))]) [] [])
                                              Tr.ret)))
                            (Tr.call (Task.at_ 17 0 [true, true, true, true, true, true, true, true, true, true] (sv 76 [(3, V.d (D.s l_0)), (6, V.d (D.i IntKind.i64 n_5)), (7, V.d (D.s l_9))]) [] [])
                              Tr.ret)))))) :=
  rk_of (by kernel_rfl)
theorem f20_at447 (l_0 : List UInt8) (b_1 : Bool) (b_2 : Bool) (l_3 : List UInt8) (l_4 : List UInt8) (b_5 : Bool) (l_6 : List UInt8) :
    rk Tryd.prog pol (Task.at_ 109 0 [true, false, true, true, true, true, true, true] (sv 76 [(0, V.d (D.s l_0)), (2, V.p 0 0), (53, V.d (D.b b_1))]) []
  [Ob.cells [V.d (D.b b_2), V.d (D.s l_3), V.d (D.s l_4), V.d (D.b b_5), V.d (D.s l_6)] []]) = interp (rk Tryd.prog pol) (
brB b_1 (Tr.ret (V.t [V.d (D.g [D.b b_2, D.s l_3, D.s l_4, D.b b_5, D.s l_6]), V.d (D.b false)], []))
  (ift (decide ((0 : Int) ≤ 1 ∧ 1 ≤ (↑l_0.length : Int)))
    (Tr.call (Task.call 127 [V.d (D.s (List.take (l_0.length - 1) (List.drop 1 l_0)))] []) fun (o_0 : Out) =>
      ift o_0.snd.isEmpty
        (unT o_0.fst fun (l_1 : List V) =>
          ift (l_1.length == 2)
            (asD (l_1.getD 0 (V.d (D.b false))) fun (d_2 : D) =>
              asB d_2 fun (b_3 : Bool) =>
                asD (l_1.getD 1 (V.d (D.b false))) fun (d_4 : D) =>
                  asS d_4 fun (l_5 : List UInt8) =>
                    Tr.call (Task.call 128 [V.d (D.s l_5)] []) fun (o_6 : Out) =>
                      ift o_6.snd.isEmpty
                        (unT o_6.fst fun (l_7 : List V) =>
                          ift (l_7.length == 2)
                            (asD (l_7.getD 0 (V.d (D.b false))) fun (d_8 : D) =>
                              asS d_8 fun (l_9 : List UInt8) =>
                                asD (l_7.getD 1 (V.d (D.b false))) fun (d_10 : D) =>
                                  asS d_10 fun (l_11 : List UInt8) =>
                                    brB (!l_9 == []) (Tr.ret (V.t [V.d (D.g [D.b b_2, D.s l_3, D.s l_4, D.b b_3, D.s l_9]), V.d (D.b (l_11 == []))], []))
                                      (Tr.ret (V.t [V.d (D.g [D.b b_2, D.s l_3, D.s l_4, D.b b_3, D.s l_9]), V.d (D.b false)], []))))))))) :=
  rk_of (by kernel_rfl)
theorem f15_at2047 (l_0 : List UInt8) (n_1 : Int) (l_2 : List UInt8) :
    rk Tryd.prog pol (Task.at_ 17 0 [true, true, true, true, true, true, true, true, true, true] (sv 76 [(3, V.d (D.s l_0)), (6, V.d (D.i IntKind.i64 n_1)), (7, V.d (D.s l_2))]) [] []) = interp (rk Tryd.prog pol) (
ift (decide ((0 : Int) ≤ 1 ∧ 1 ≤ (↑l_2.length : Int)))
  (Tr.call (Task.call 37 [V.d (D.s (List.take (l_2.length - 1) (List.drop 1 l_2))), V.d (D.s [48])] []) fun (o_0 : Out) =>
    ift o_0.snd.isEmpty
      (asD o_0.fst fun (d_1 : D) =>
        asS d_1 fun (l_2_1 : List UInt8) =>
          brB (l_2_1 == [])
            (Tr.call
              (Task.at_ 17 0 [true, true, true, true, true, true, true, true, true, true, true, true]
                (sv 76 [(3, V.d (D.s l_0)), (6, V.d (D.i IntKind.i64 n_1)), (7, V.d (D.s l_2)), (8, V.d (D.s [48]))]) [] [])
              Tr.ret)
            (Tr.call
              (Task.at_ 17 0 [true, true, true, true, true, true, true, true, true, true, true, true]
                (sv 76 [(3, V.d (D.s l_0)), (6, V.d (D.i IntKind.i64 n_1)), (7, V.d (D.s l_2)), (8, V.d (D.s l_2_1))]) [] [])
              Tr.ret)))) :=
  rk_of (by kernel_rfl)
theorem f15_at8191 (l_0 : List UInt8) (n_1 : Int) (l_2 : List UInt8) (l_3 : List UInt8) :
    rk Tryd.prog pol (Task.at_ 17 0 [true, true, true, true, true, true, true, true, true, true, true, true] (sv 76 [(3, V.d (D.s l_0)), (6, V.d (D.i IntKind.i64 n_1)), (7, V.d (D.s l_2)), (8, V.d (D.s l_3))]) [] []) = interp (rk Tryd.prog pol) (
ift (decide ((0 : Int) ≤ 1 ∧ 1 ≤ (↑l_2.length : Int)))
  (ift (decide (l_0.length + (List.take 1 (List.drop 0 l_2)).length < 4611686018427387904))
    (ift (decide ((l_0 ++ List.take 1 (List.drop 0 l_2)).length + 1 < 4611686018427387904))
      (ift (decide ((l_0 ++ List.take 1 (List.drop 0 l_2) ++ [46]).length + l_3.length < 4611686018427387904))
        (ift (decide ((l_0 ++ List.take 1 (List.drop 0 l_2) ++ [46] ++ l_3).length + 1 < 4611686018427387904))
          (Tr.call (Task.call 38 [V.d (D.i IntKind.i64 n_1)] []) fun (o_0 : Out) =>
            ift o_0.snd.isEmpty
              (asD o_0.fst fun (d_1 : D) =>
                asS d_1 fun (l_2_1 : List UInt8) =>
                  ift (decide ((l_0 ++ List.take 1 (List.drop 0 l_2) ++ [46] ++ l_3 ++ [101]).length + l_2_1.length < 4611686018427387904))
                    (Tr.ret (V.d (D.s (l_0 ++ List.take 1 (List.drop 0 l_2) ++ [46] ++ l_3 ++ [101] ++ l_2_1)), []))))))))) :=
  rk_of (by kernel_rfl)
end Go.Dn.Dec
namespace Go.Dn.Dec
open Go.Proofs
set_option exponentiation.threshold 5000000
/-- The nearest whole number, the even one if two are. -/
def nearN (x y : Nat) : Nat := if y < 2 * (x % y) ∨ (2 * (x % y) = y ∧ x / y % 2 = 1) then x / y + 1 else x / y
theorem fits_one : Fits 1 := fits_two (Nat.one_lt_two_pow (by decide))
theorem of_one : rk Tryd.prog pol (Task.call 62 [V.d (D.i .u64 1)] []) = some (.d (.l (nb 1) (ws 1)), []) := of_ws 1 (by decide)
theorem low_bit {q : Nat} : (IntKind.u64.wrap (((BitVec.ofInt IntKind.u64.bits ((q % 18446744073709551616 : Nat) : Int) &&& BitVec.ofInt IntKind.u64.bits 1).toNat : Nat) : Int) == 1) = decide (q % 2 = 1) := by
  have e : (BitVec.ofInt IntKind.u64.bits ((q % 18446744073709551616 : Nat) : Int) &&& BitVec.ofInt IntKind.u64.bits 1).toNat = q % 2 := by
    show (BitVec.ofInt 64 ((q % 18446744073709551616 : Nat) : Int) &&& BitVec.ofInt 64 1).toNat = _
    rw [BitVec.toNat_and, BitVec.ofInt_natCast, BitVec.toNat_ofNat]
    have : (BitVec.ofInt 64 1).toNat = 1 := by decide
    rw [this, Nat.and_one_is_mod]; omega
  rw [e, u64_wrap, mod_64 (by omega)]
  rcases Nat.mod_two_eq_zero_or_one q with h | h <;> simp [h]
theorem near_ws (b c : Bool) (x y : Nat) (hx : Fits x) (hx1 : Fits (x + 1)) (hy : Fits (y * 2)) (hy0 : 0 < y) : rk Tryd.prog pol (Task.call 71 [V.d (D.l b (ws x)), V.d (D.l c (ws y))] []) = some (.d (.l (nb (nearN x y)) (ws (nearN x y))), []) := by
  rw [f54]
  have hdv := div_ws b c x y hx hy hy0
  have hr : x % y < y := Nat.mod_lt _ hy0
  have fr : Fits (x % y) := hy.le (by omega)
  have hs : rk Tryd.prog pol (Task.call 63 [V.d (D.l (nb (x % y)) (ws (x % y))), V.d (D.i .i64 1)] []) = some (.d (.l (nb (x % y * 2 ^ 1)) (ws (x % y * 2 ^ 1))), []) := shl_ws (nb (x % y)) (x % y) 1 fr (by decide)
  rw [Nat.pow_one] at hs
  have hc := cmp_ws (nb (x % y * 2)) c (x % y * 2) y (hy.le (by omega)) (hy.le (by omega))
  have hq : x / y ≤ x := Nat.div_le_self _ _
  have hl := low_ws (nb (x / y)) (x / y) (hx.le hq)
  have ha := add_ws (nb (x / y)) (nb 1) (x / y) 1 (hx.le hq) fits_one
  have t1 : ∀ bb : Bool, rk Tryd.prog pol (Task.at_ 71 0 [true, false, true, true, true] (sv 36 [(5, V.d (D.l (nb (x / y)) (ws (x / y)))), (31, V.d (D.b bb))]) [] []) = some (.d (.l (nb (if bb = true then x / y + 1 else x / y)) (ws (if bb = true then x / y + 1 else x / y))), []) := by
    intro bb
    rw [f54_at55]
    cases bb
    · simp
    · simp [of_one, ha]
  simp only [interp_call', hdv, Option.bind_some, List.isEmpty_nil, interp_ift', if_true, unT_t, List.length_cons, List.length_nil, Nat.zero_add, Nat.reduceAdd, beq_self_eq_true, List.getD_cons_zero, List.getD_cons_succ, asD_d, asL_l, asB_b, hs, hc, interp_asI, interp_brB, interp_ret, hl, low_bit, t1]
  unfold nearN cmpN
  by_cases h1 : x % y * 2 < y
  · simp only [if_pos h1]
    rw [if_neg (by decide), if_neg (by decide)]
    have : ¬ (y < 2 * (x % y) ∨ (2 * (x % y) = y ∧ x / y % 2 = 1)) := by omega
    simp [this]
  · by_cases h2 : y < x % y * 2
    · simp only [if_neg h1, if_pos h2]
      have : (y < 2 * (x % y) ∨ (2 * (x % y) = y ∧ x / y % 2 = 1)) := by omega
      simp [this]
    · simp only [if_neg h1, if_neg h2]
      have e : (y < 2 * (x % y) ∨ (2 * (x % y) = y ∧ x / y % 2 = 1)) = (x / y % 2 = 1) := propext (by omega)
      simp only [e]
      simp
/-! ### The bits of a number up to 2^53 times a power of two -/
def joinedN (q : Nat) (e : Int) : Nat × Bool :=
  if q < 2 ^ 52 then (q, true) else if 971 < e then (0, false) else ((e + 1075).toNat * 2 ^ 52 + (q - 2 ^ 52), true)
theorem or_mul {a b k : Nat} (h : b < 2 ^ k) : a * 2 ^ k ||| b = a * 2 ^ k + b := by
  rw [Nat.or_comm, or_add h, Nat.add_comm]
theorem joined_run (q : Nat) (e : Int) (hq : q < 2 ^ 53) (he1 : -1074 ≤ e) (he2 : e ≤ 1000000) :
    rk Tryd.prog pol (Task.call 129 [V.d (D.i .u64 (q : Int)), V.d (D.i .i64 e)] []) = some (.t [.d (.i .u64 ((joinedN q e).1 : Nat)), .d (.b (joinedN q e).2)], []) := by
  rw [f55]
  unfold joinedN
  have hf : ((q : Int).fdiv 4503599627370496 == 0) = decide (q < 2 ^ 52) := by
    have := fdiv_nat q 4503599627370496
    have e1 : (q : Int).fdiv 4503599627370496 = ((q / 4503599627370496 : Nat) : Int) := this
    rw [e1]
    by_cases h : q < 2 ^ 52
    · rw [Nat.div_eq_of_lt (by simpa using h)]; simp; omega
    · have : q / 4503599627370496 ≠ 0 := by omega
      rw [beq_eq_false_iff_ne.2 (by omega)]; simp [h]
  by_cases h : q < 2 ^ 52
  · simp [hf, h]
  · by_cases h2 : e > 971
    · simp [hf, h, h2]
    · have hb : (BitVec.ofInt IntKind.u64.bits (q : Int) &&& BitVec.ofInt IntKind.u64.bits 4503599627370495).toNat = q - 2 ^ 52 := by
        show (BitVec.ofInt 64 (q : Int) &&& BitVec.ofInt 64 4503599627370495).toNat = _
        rw [BitVec.toNat_and, BitVec.ofInt_natCast, BitVec.toNat_ofNat]
        have e2 : (BitVec.ofInt 64 4503599627370495).toNat = 2 ^ 52 - 1 := by decide
        rw [e2, Nat.and_two_pow_sub_one_eq_mod]; omega
      have hw0 : IntKind.i64.wrap (e - -1074) = e + 1074 := by rw [wrap_i64] <;> omega
      have hw1 : IntKind.i64.wrap (e + 1074 + 1) = ((e + 1075).toNat : Int) := by rw [wrap_i64] <;> omega
      have hE : (e + 1075).toNat ≤ 2046 := by omega
      have hE2 : 1 ≤ (e + 1075).toNat := by omega
      generalize (e + 1075).toNat = E at hw1 hE hE2 ⊢
      have hw2 : IntKind.u64.wrap (E : Int) = (E : Int) := by rw [u64_wrap]; omega
      have hw3 : IntKind.u64.wrap ((E : Int) * 4503599627370496) = ((E * 2 ^ 52 : Nat) : Int) := by rw [u64_wrap]; omega
      have hw4 : IntKind.u64.wrap ((q - 2 ^ 52 : Nat) : Int) = ((q - 2 ^ 52 : Nat) : Int) := by rw [u64_wrap]; omega
      have hor : (BitVec.ofInt IntKind.u64.bits ((E * 2 ^ 52 : Nat) : Int) ||| BitVec.ofInt IntKind.u64.bits ((q - 2 ^ 52 : Nat) : Int)).toNat = E * 2 ^ 52 + (q - 2 ^ 52) := by
        have := or_nat (a := E * 2 ^ 52) (b := q - 2 ^ 52) (by omega) (by omega)
        rw [or_mul (by omega)] at this
        exact this
      have hw5 : IntKind.u64.wrap ((E * 2 ^ 52 + (q - 2 ^ 52) : Nat) : Int) = ((E * 2 ^ 52 + (q - 2 ^ 52) : Nat) : Int) := by rw [u64_wrap]; omega
      have h3 : ¬ (971 < e) := h2
      simp only [interp_brB, hf, h, decide_false, Bool.false_eq_true, if_false, h2, hb, hw0, hw1, hw2, hw3, hw4, hor, hw5, interp_ret]
/-- A quotient times a power of two, rounded. -/
def nearAt (x y : Nat) (e : Int) : Nat := if e < 0 then nearN (x * 2 ^ (-e).toNat) y else nearN x (y * 2 ^ e.toNat)
def firstE (x y : Nat) : Int := max ((blen x : Int) - blen y - 53) (-1074)
def bitsN (x y : Nat) : Nat × Bool :=
  if x = 0 then (0, true)
  else if blen (nearAt x y (firstE x y)) ≤ 53 then joinedN (nearAt x y (firstE x y)) (firstE x y)
  else if blen (nearAt x y (firstE x y + 1)) ≤ 53 then joinedN (nearAt x y (firstE x y + 1)) (firstE x y + 1)
  else joinedN (nearAt x y (firstE x y + 2)) (firstE x y + 2)
theorem nearN_le {x y k : Nat} (hy : 0 < y) (h : x ≤ k * y) : nearN x y ≤ k := by
  have hd := Nat.div_add_mod x y
  have hr : x % y < y := Nat.mod_lt _ hy
  have h1 : x / y ≤ k := Nat.div_le_of_le_mul (by rw [Nat.mul_comm]; exact h)
  unfold nearN
  split
  · rcases Nat.lt_or_ge (x / y) k with h2 | h2
    · omega
    · have : x / y = k := by omega
      rw [this, Nat.mul_comm] at hd
      omega
  · exact h1
theorem nearAt_le (x y : Nat) (hy : 0 < y) (e : Int) (k : Nat) (h : if e < 0 then x * 2 ^ (-e).toNat ≤ k * y else x ≤ k * (y * 2 ^ e.toNat)) : nearAt x y e ≤ k := by
  unfold nearAt
  split
  · rename_i he; rw [if_pos he] at h; exact nearN_le hy h
  · rename_i he; rw [if_neg he] at h; exact nearN_le (Nat.mul_pos hy (Nat.pow_pos (by decide))) h
/-- Two further on the quotient has 53 bits. -/
theorem third (x y : Nat) (hx : x ≠ 0) (hy : 0 < y) : nearAt x y (firstE x y + 2) ≤ 2 ^ 52 := by
  apply nearAt_le x y hy
  have hx2 := lt_blen x
  have hy2 := blen_le y (by omega)
  have hyp := blen_pos (n := y) (by omega)
  have hf : (blen x : Int) - blen y - 53 ≤ firstE x y := Int.le_max_left ..
  generalize firstE x y = e at hf
  split
  · rename_i he
    have h1 : x * 2 ^ (-(e + 2)).toNat ≤ 2 ^ (blen x + (-(e + 2)).toNat) := by
      rw [Nat.pow_add]; exact Nat.mul_le_mul_right _ (Nat.le_of_lt hx2)
    have h2 : 2 ^ (52 + (blen y - 1)) ≤ 2 ^ 52 * y := by rw [Nat.pow_add]; exact Nat.mul_le_mul_left _ hy2
    exact Nat.le_trans h1 (Nat.le_trans (Nat.pow_le_pow_right (by decide) (by omega)) h2)
  · rename_i he
    have h2 : 2 ^ (52 + (blen y - 1) + (e + 2).toNat) ≤ 2 ^ 52 * (y * 2 ^ (e + 2).toNat) := by
      rw [Nat.pow_add, Nat.pow_add, ← Nat.mul_assoc]; exact Nat.mul_le_mul_right _ (Nat.mul_le_mul_left _ hy2)
    exact Nat.le_trans (Nat.le_of_lt hx2) (Nat.le_trans (Nat.pow_le_pow_right (by decide) (by omega)) h2)
/-- Numbers of moderate length. -/
def Mid (n : Nat) : Prop := n < 2 ^ 4000
theorem Mid.fits {n : Nat} (h : Mid n) : Fits n := fits_two (Nat.lt_of_lt_of_le h (Nat.pow_le_pow_right (by decide) (by decide)))
theorem Mid.mul_fits {n k : Nat} (h : Mid n) (hk : k ≤ 10000) : Fits (n * 2 ^ k) ∧ Fits (n * 2 ^ k + 1) ∧ Fits (n * 2 ^ k * 2) := by
  have h1 : n * 2 ^ k + 1 ≤ 2 ^ (4000 + k) := by rw [Nat.pow_add]; exact Nat.mul_lt_mul_of_pos_right h (Nat.pow_pos (by decide))
  have h3 : n * 2 ^ k * 2 ≤ 2 ^ (4000 + k + 1) := by rw [Nat.pow_succ]; exact Nat.mul_le_mul_right _ (by omega)
  have h2 : 2 ^ (4000 + k + 1) < 2 ^ 300000 := Nat.pow_lt_pow_right (by decide) (by omega)
  have h4 : 2 ^ (4000 + k) ≤ 2 ^ (4000 + k + 1) := Nat.pow_le_pow_right (by decide) (by omega)
  exact ⟨fits_two (by omega), fits_two (by omega), fits_two (by omega)⟩
theorem Mid.blen {n : Nat} (h : Mid n) : blen n ≤ 4000 := (blen_le_iff _ _).2 h
theorem Mid.fits1 {n : Nat} (h : Mid n) : Fits (n + 1) := by have := (h.mul_fits (k := 0) (by decide)).2.1; rwa [Nat.pow_zero, Nat.mul_one] at this
theorem Mid.fits2 {n : Nat} (h : Mid n) : Fits (n * 2) := by have := (h.mul_fits (k := 0) (by decide)).2.2; rwa [Nat.pow_zero, Nat.mul_one] at this
theorem bits_step (b c : Bool) (x y : Nat) (hx : Mid x) (hy : Mid y) (hy0 : 0 < y) (e : Int) (he1 : -1074 ≤ e) (he2 : e ≤ 10000) :
    rk Tryd.prog pol (Task.at_ 112 0 [false, true, true, true] (sv 46 [(0, V.d (D.l b (ws x))), (1, V.d (D.l c (ws y))), (6, V.d (D.i .i64 e))]) [] []) =
      if blen (nearAt x y e) ≤ 53 then some (.t [.d (.i .u64 ((joinedN (nearAt x y e) e).1 : Nat)), .d (.b (joinedN (nearAt x y e) e).2)], [])
      else rk Tryd.prog pol (Task.at_ 112 0 [false, true, true, true] (sv 46 [(0, V.d (D.l b (ws x))), (1, V.d (D.l c (ws y))), (6, V.d (D.i .i64 (e + 1)))]) [] []) := by
  have hw1 : IntKind.i64.wrap (e + 1) = e + 1 := by rw [wrap_i64] <;> omega
  have main : ∀ (b1 c1 : Bool) (p q : Nat), Fits p → Fits (p + 1) → Fits (q * 2) → 0 < q → nearN p q = nearAt x y e →
    rk Tryd.prog pol (Task.at_ 112 0 [true, true, false, false, false, true, true, true] (sv 46 [(0, V.d (D.l b (ws x))), (1, V.d (D.l c (ws y))), (6, V.d (D.i .i64 e)), (7, V.d (D.l b1 (ws p))), (8, V.d (D.l c1 (ws q)))]) [] []) =
     if blen (nearAt x y e) ≤ 53 then some (.t [.d (.i .u64 ((joinedN (nearAt x y e) e).1 : Nat)), .d (.b (joinedN (nearAt x y e) e).2)], [])
      else rk Tryd.prog pol (Task.at_ 112 0 [false, true, true, true] (sv 46 [(0, V.d (D.l b (ws x))), (1, V.d (D.l c (ws y))), (6, V.d (D.i .i64 (e + 1)))]) [] []) := by
    intro b1 c1 p q hp hp1 hq hq0 hn
    rw [f26_at455]
    have h1 := near_ws b1 c1 p q hp hp1 hq hq0
    rw [hn] at h1
    have hle : nearN p q ≤ p + 1 := by
      unfold nearN
      have := Nat.div_le_self p q
      split <;> omega
    have fn : Fits (nearAt x y e) := hn ▸ hp1.le hle
    have h2 := bits_ws (nb (nearAt x y e)) (nearAt x y e) fn
    have h3 := low_ws (nb (nearAt x y e)) (nearAt x y e) fn
    by_cases hb : blen (nearAt x y e) ≤ 53
    · have hb' : ((blen (nearAt x y e) : Nat) : Int) ≤ 53 := by omega
      have hlt : nearAt x y e < 2 ^ 53 := (blen_le_iff _ _).1 hb
      have hj := joined_run (nearAt x y e) e hlt he1 (by omega)
      have hm : nearAt x y e % 18446744073709551616 = nearAt x y e := Nat.mod_eq_of_lt (by omega)
      rw [hm] at h3
      rw [if_pos hb]
      simp only [interp_call', h1, h2, h3, Option.bind_some, List.isEmpty_nil, interp_ift', if_true, asD_d, asL_l, interp_asI, interp_brB, decide_eq_true hb', hj, unT_t, List.length_cons, List.length_nil, Nat.zero_add, Nat.reduceAdd, beq_self_eq_true, List.getD_cons_zero, List.getD_cons_succ, asB_b, interp_ret]
    · have hb' : ¬ ((blen (nearAt x y e) : Nat) : Int) ≤ 53 := by omega
      rw [if_neg hb]
      simp only [interp_call', h1, h2, Option.bind_some, List.isEmpty_nil, interp_ift', if_true, asD_d, asL_l, interp_asI, interp_brB, decide_eq_false hb', Bool.false_eq_true, if_false, hw1, interp_ret]
      generalize rk Tryd.prog pol (Task.at_ 112 0 [false, true, true, true] _ _ _) = R
      cases R <;> rfl
  rw [f26_at23]
  by_cases he : e < 0
  · have hw0 : IntKind.i64.wrap (0 - e) = ((-e).toNat : Int) := by rw [wrap_i64] <;> omega
    have hs := shl_ws b x (-e).toNat hx.fits (by omega)
    obtain ⟨f1, f2, -⟩ := hx.mul_fits (k := (-e).toNat) (by omega)
    simp only [interp_brB, decide_eq_true he, if_true, hw0, interp_call', hs, Option.bind_some, List.isEmpty_nil, interp_ift', asD_d, asL_l, interp_ret]
    rw [main _ _ _ _ f1 f2 hy.fits2 hy0 (by rw [nearAt, if_pos he])]
    split
    · rfl
    · generalize rk Tryd.prog pol (Task.at_ 112 0 [false, true, true, true] _ _ _) = R
      cases R <;> rfl
  · have hw0 : e = (e.toNat : Int) := by omega
    have hs := shl_ws c y e.toNat hy.fits (by omega)
    rw [← hw0] at hs
    obtain ⟨-, -, f2⟩ := hy.mul_fits (k := e.toNat) (by omega)
    simp only [interp_brB, decide_eq_false he, Bool.false_eq_true, if_false, interp_call', hs, Option.bind_some, List.isEmpty_nil, interp_ift', if_true, asD_d, asL_l, interp_ret]
    rw [main _ _ _ _ hx.fits hx.fits1 f2 (Nat.mul_pos hy0 (Nat.pow_pos (by decide))) (by rw [nearAt, if_neg he])]
    split
    · rfl
    · generalize rk Tryd.prog pol (Task.at_ 112 0 [false, true, true, true] _ _ _) = R
      cases R <;> rfl
theorem bitsOf_ws (b c : Bool) (x y : Nat) (hx : Mid x) (hy : Mid y) (hy0 : 0 < y) :
    rk Tryd.prog pol (Task.call 112 [V.d (D.l b (ws x)), V.d (D.l c (ws y))] []) = some (.t [.d (.i .u64 ((bitsN x y).1 : Nat)), .d (.b (bitsN x y).2)], []) := by
  rw [f26]
  have h1 := bits_ws b x hx.fits
  have h2 := bits_ws c y hy.fits
  have hbx := hx.blen
  have hby := hy.blen
  by_cases h0 : x = 0
  · have hb : blen x = 0 := by rw [h0]; rfl
    rw [hb] at h1
    rw [bitsN, if_pos h0]
    simp [h1]
  · have hb := blen_pos h0
    have hne : (((blen x : Nat) : Int) == 0) = false := beq_eq_false_iff_ne.2 (by omega)
    have hw1 : IntKind.i64.wrap (((blen x : Nat) : Int) - ((blen y : Nat) : Int)) = (blen x : Int) - blen y := by rw [wrap_i64] <;> omega
    have hw2 : IntKind.i64.wrap ((blen x : Int) - blen y - 52) = (blen x : Int) - blen y - 52 := by rw [wrap_i64] <;> omega
    have hw3 : IntKind.i64.wrap ((blen x : Int) - blen y - 52 - 1) = (blen x : Int) - blen y - 53 := by rw [wrap_i64] <;> omega
    have hE : (if -1074 > (blen x : Int) - blen y - 53 then (-1074 : Int) else (blen x : Int) - blen y - 53) = firstE x y := by
      unfold firstE; split <;> omega
    have hE1 : -1074 ≤ firstE x y := Int.le_max_right ..
    have hE2 : firstE x y ≤ 4000 := by unfold firstE; omega
    have h3 := third x y h0 hy0
    have hb3 : blen (nearAt x y (firstE x y + 2)) ≤ 53 := (blen_le_iff _ _).2 (by have : (2:Nat) ^ 52 < 2 ^ 53 := by decide
                                                                                  omega)
    simp only [interp_call', h1, h2, Option.bind_some, List.isEmpty_nil, interp_ift', if_true, asD_d, interp_asI, interp_brB, hne, Bool.false_eq_true, if_false, hw1, hw2, hw3, hE, interp_ret]
    rw [bits_step b c x y hx hy hy0 _ hE1 (by omega), bits_step b c x y hx hy hy0 _ (by omega) (by omega), bits_step b c x y hx hy hy0 _ (by omega) (by omega), show firstE x y + 1 + 1 = firstE x y + 2 by omega, if_pos hb3]
    rw [bitsN, if_neg h0]
    split
    · rfl
    · split <;> rfl
/-! ### Int -/
def signV (neg : Bool) (v : Nat) : Nat := if neg = true then v ||| 2 ^ 63 else v
def intN (v : Int) : Nat := signV (decide (v < 0)) (bitsN v.natAbs 1).1
end Go.Dn.Dec
namespace Go.Dn.Dec
open Go.Proofs
set_option exponentiation.threshold 5000000
theorem joinedN_lt {q : Nat} (e : Int) (h : q < 2 ^ 53) : (joinedN q e).1 < 2 ^ 63 := by
  unfold joinedN
  split
  · simp only; omega
  · split
    · simp only; omega
    · simp only; omega
theorem bitsN_lt (x y : Nat) (hy : 0 < y) : (bitsN x y).1 < 2 ^ 63 := by
  unfold bitsN
  split
  · simp only; omega
  · split
    · rename_i h; exact joinedN_lt _ ((blen_le_iff _ _).1 h)
    · split
      · rename_i h; exact joinedN_lt _ ((blen_le_iff _ _).1 h)
      · rename_i h0 _ _
        have := third x y h0 hy
        exact joinedN_lt _ (by omega)
theorem sign_or {v : Nat} (h : v < 2 ^ 63) : IntKind.u64.wrap (((BitVec.ofInt IntKind.u64.bits (v : Int) ||| BitVec.ofInt IntKind.u64.bits 9223372036854775808).toNat : Nat) : Int) = ((v ||| 2 ^ 63 : Nat) : Int) ∧ v ||| 2 ^ 63 = v + 2 ^ 63 := by
  have h1 : v ||| 2 ^ 63 = v + 2 ^ 63 := by
    have := or_add (c := v) (a := 1) (k := 63) h
    rwa [Nat.one_mul] at this
  have e63 : (2 : Nat) ^ 63 = 9223372036854775808 := by decide
  have h2 : (BitVec.ofInt IntKind.u64.bits (v : Int) ||| BitVec.ofInt IntKind.u64.bits 9223372036854775808).toNat = v ||| 2 ^ 63 := by
    rw [e63]; exact or_nat (a := v) (b := 9223372036854775808) (by omega) (by decide)
  rw [h2]
  refine ⟨?_, h1⟩
  rw [h1, u64_wrap]; omega
theorem mid_lt {n : Nat} (h : n < 2 ^ 4000) : Mid n := h
theorem mid_one : Mid 1 := Nat.one_lt_two_pow (by decide)
theorem mid_u64 {n : Nat} (h : n < 18446744073709551616) : Mid n := mid_lt (Nat.lt_of_lt_of_le h (show (2:Nat) ^ 64 ≤ 2 ^ 4000 from Nat.pow_le_pow_right (by decide) (by decide)))
/-! ### Texts -/
theorem len2 (a b : V) : ([a, b].length == 2) = true := rfl
theorem len3 (a b c : V) : ([a, b, c].length == 3) = true := rfl
def isDig (c : UInt8) : Bool := decide (48 ≤ c.toNat) && decide (c.toNat ≤ 57)
def runN' (s : List UInt8) : List UInt8 × List UInt8 := (s.takeWhile isDig, s.dropWhile isDig)
theorem run_loop : ∀ (r p : List UInt8), (p ++ r).length ≤ 1000000 →
    rk Tryd.prog pol (Task.at_ 128 0 [false, false, true, true] (sv 29 [(0, V.d (D.s (p ++ r))), (4, V.d (D.i IntKind.i64 (p.length : Int)))]) [] []) = some (.t [.d (.s (p ++ r.takeWhile isDig)), .d (.s (r.dropWhile isDig))], [])
  | [], p, hl => by
    rw [f48_at19, List.append_nil]
    have h : ¬ ((p.length : Int) < (p.length : Int)) := by omega
    have h2 : (0 : Int) ≤ (p.length : Int) := by omega
    simp [h, f48_at195, h2]
  | c :: r, p, hl => by
    rw [f48_at19]
    have hi : p.length < (p ++ c :: r).length := by simp
    have hi' : ((p.length : Nat) : Int) < (((p ++ c :: r).length : Nat) : Int) := by omega
    have g : (p ++ c :: r)[p.length]? = some c := by simp
    have hpl : (p ++ [c]).length = p.length + 1 := by simp
    have hwl : p.length + (r.length + 1) ≤ 1000000 := by simpa using hl
    have hw : IntKind.i64.wrap ((p.length : Int) + 1) = (((p ++ [c]).length : Nat) : Int) := by rw [hpl, wrap_i64] <;> omega
    have ih := run_loop r (p ++ [c]) (by simpa using hl)
    rw [List.append_assoc, List.singleton_append] at ih
    have hstop : isDig c = false → rk Tryd.prog pol (Task.at_ 128 0 [true, false, false, false, false, true, true] (sv 29 [(0, V.d (D.s (p ++ c :: r))), (4, V.d (D.i IntKind.i64 (p.length : Int))), (20, V.d (D.b false))]) [] []) = some (.t [.d (.s (p ++ (c :: r).takeWhile isDig)), .d (.s ((c :: r).dropWhile isDig))], []) := by
      intro hd
      rw [f48_at195]
      have h2 : (0 : Int) ≤ (p.length : Int) ∧ (p.length : Int) ≤ (((p ++ c :: r).length : Nat) : Int) := by omega
      have e1 : List.take (p.length - 0) (List.drop 0 (p ++ c :: r)) = p := by simp
      have e2 : List.take ((p ++ c :: r).length - p.length) (List.drop p.length (p ++ c :: r)) = c :: r := by simp
      simp only [interp_brB, Bool.false_eq_true, if_false, interp_ift', decide_eq_true h2, if_true, Int.toNat_natCast, e1, e2, interp_ret, List.takeWhile_cons, hd, List.dropWhile_cons, List.append_nil]
    simp only [interp_brB, decide_eq_true hi', if_true, getI_nat, g, interp_ob', Option.bind_some, interp_call_ret]
    by_cases h1 : (c.toNat : Int) ≥ 48
    · by_cases h2 : (c.toNat : Int) ≤ 57
      · have hd : isDig c = true := by simp [isDig]; omega
        rw [if_pos (by simpa using h1), f48_at195]
        simp only [interp_brB, decide_eq_true h2, if_true, hw, interp_call_ret, ih, List.takeWhile_cons, hd, List.dropWhile_cons]
        simp
      · have hd : isDig c = false := by simp [isDig]; omega
        rw [if_pos (by simpa using h1), decide_eq_false h2]
        exact hstop hd
    · have hd : isDig c = false := by simp [isDig]; omega
      rw [if_neg (by simpa using h1)]
      exact hstop hd
theorem run_s (s : List UInt8) (h : s.length ≤ 1000000) : rk Tryd.prog pol (Task.call 128 [V.d (D.s s)] []) = some (.t [.d (.s (s.takeWhile isDig)), .d (.s (s.dropWhile isDig))], []) := by
  rw [f48]
  have := run_loop s [] (by simpa using h)
  simpa using this
/-- A sign taken off. -/
def signB (s : List UInt8) : Bool × List UInt8 :=
  match s with
  | [] => (false, [])
  | c :: r => if c = 43 then (false, r) else if c = 45 then (true, r) else (false, c :: r)
theorem u8_eq (c d : UInt8) : ((c.toNat : Int) == (d.toNat : Int)) = decide (c = d) := by
  by_cases h : c = d
  · subst h; simp
  · have : c.toNat ≠ d.toNat := fun e => h (UInt8.toNat_inj.1 e)
    rw [beq_eq_false_iff_ne.2 (by omega)]; simp [h]
theorem u8_43 (c : UInt8) : ((c.toNat : Int) == 43) = decide (c = 43) := u8_eq c 43
theorem u8_45 (c : UInt8) : ((c.toNat : Int) == 45) = decide (c = 45) := u8_eq c 45
theorem u8_46 (c : UInt8) : ((c.toNat : Int) == 46) = decide (c = 46) := u8_eq c 46
theorem u8_101 (c : UInt8) : ((c.toNat : Int) != 101) = decide (c ≠ 101) := by
  rw [bne, show ((c.toNat : Int) == 101) = decide (c = 101) from u8_eq c 101]; by_cases h : c = 101 <;> simp [h]
theorem u8_69 (c : UInt8) : ((c.toNat : Int) != 69) = decide (c ≠ 69) := by
  rw [bne, show ((c.toNat : Int) == 69) = decide (c = 69) from u8_eq c 69]; by_cases h : c = 69 <;> simp [h]
theorem signed_s (s : List UInt8) : rk Tryd.prog pol (Task.call 127 [V.d (D.s s)] []) = some (.t [.d (.b (signB s).1), .d (.s (signB s).2)], []) := by
  rw [f47]
  cases s with
  | nil => simp [f47_at13, signB]
  | cons c r =>
    have e : (List.take ((c :: r).length - 1) (List.drop 1 (c :: r))) = r := by simp
    have hle : ((0 : Int) ≤ 1 ∧ (1 : Int) ≤ (((c :: r).length : Nat) : Int)) := ⟨by decide, by rw [List.length_cons]; omega⟩
    have hne : (!(c :: r) == []) = true := by simp
    simp only [interp_brB, hne, if_true, getI_zero, List.getElem?_cons_zero, interp_ob', Option.bind_some, u8_43, u8_45, interp_call_ret, f47_at13, interp_ift', decide_eq_true hle, e, interp_ret, decide_eq_true_eq, signB]
    by_cases h1 : c = 43
    · subst h1; simp
    · by_cases h2 : c = 45
      · subst h2; simp
      · simp [h1, h2]
structure Tx where
  neg : Bool
  whole : List UInt8
  part : List UInt8
  en : Bool
  ex : List UInt8
def Tx.g (t : Tx) : List D := [.b t.neg, .s t.whole, .s t.part, .b t.en, .s t.ex]
def finB (neg : Bool) (w p s : List UInt8) : Tx × Bool :=
  if w = [] ∧ p = [] then (⟨neg, w, p, false, []⟩, false)
  else match s with
    | [] => (⟨neg, w, p, false, []⟩, true)
    | c :: r => if c ≠ 101 ∧ c ≠ 69 then (⟨neg, w, p, false, []⟩, false)
      else (⟨neg, w, p, (signB r).1, (signB r).2.takeWhile isDig⟩, decide ((signB r).2.takeWhile isDig ≠ []) && decide ((signB r).2.dropWhile isDig = []))
def splitB (s : List UInt8) : Tx × Bool :=
  let n := (signB s).1
  let w := (signB s).2.takeWhile isDig
  match (signB s).2.dropWhile isDig with
  | [] => finB n w [] []
  | c :: r => if c = 46 then (if r.takeWhile isDig = [] then (⟨n, w, [], false, []⟩, false) else finB n w (r.takeWhile isDig) (r.dropWhile isDig)) else finB n w [] (c :: r)
theorem signB_len (s : List UInt8) : (signB s).2.length ≤ s.length := by
  unfold signB
  cases s with
  | nil => simp
  | cons c r => simp only; split <;> (try split) <;> simp
theorem drop_len (s : List UInt8) : (s.dropWhile isDig).length ≤ s.length := List.dropWhile_sublist isDig |>.length_le
theorem beq_nil (l : List UInt8) : (l == []) = decide (l = []) := by cases l <;> simp
theorem split_fin (neg : Bool) (w p s : List UInt8) (hs : s.length ≤ 1000000) :
    interp (rk Tryd.prog pol) (brB (w == [])
    (Tr.call
      (Task.at_ 109 0 [true, false, true, true, true, true] (sv 76 [(0, V.d (D.s s)), (2, V.p 0 0), (41, V.d (D.b (p == [])))]) []
        [Ob.cells [V.d (D.b neg), V.d (D.s w), V.d (D.s p), V.d (D.b false), V.d (D.s [])] []])
      Tr.ret)
    (Tr.call
      (Task.at_ 109 0 [true, false, true, true, true, true] (sv 76 [(0, V.d (D.s s)), (2, V.p 0 0), (41, V.d (D.b false))]) []
        [Ob.cells [V.d (D.b neg), V.d (D.s w), V.d (D.s p), V.d (D.b false), V.d (D.s [])] []])
      Tr.ret)) = some (.t [.d (.g (finB neg w p s).1.g), .d (.b (finB neg w p s).2)], []) := by
  have key : ∀ b : Bool, b = (w == [] && p == []) → rk Tryd.prog pol (Task.at_ 109 0 [true, false, true, true, true, true] (sv 76 [(0, V.d (D.s s)), (2, V.p 0 0), (41, V.d (D.b b))]) []
        [Ob.cells [V.d (D.b neg), V.d (D.s w), V.d (D.s p), V.d (D.b false), V.d (D.s [])] []]) = some (.t [.d (.g (finB neg w p s).1.g), .d (.b (finB neg w p s).2)], []) := by
    intro b hb
    rw [f20_at111]
    by_cases h0 : w = [] ∧ p = []
    · have : b = true := by rw [hb]; simp [h0]
      subst this
      unfold finB
      rw [if_pos h0]
      simp [Tx.g]
    · have : b = false := by rw [hb]; cases w <;> cases p <;> simp_all
      subst this
      unfold finB
      rw [if_neg h0]
      cases s with
      | nil => simp [Tx.g]
      | cons c r =>
        have hne : ((c :: r) == ([] : List UInt8)) = false := by simp
        have fin : ∀ bb : Bool, bb = decide (c ≠ 101 ∧ c ≠ 69) → rk Tryd.prog pol (Task.at_ 109 0 [true, false, true, true, true, true, true, true] (sv 76 [(0, V.d (D.s (c :: r))), (2, V.p 0 0), (53, V.d (D.b bb))]) []
              [Ob.cells [V.d (D.b neg), V.d (D.s w), V.d (D.s p), V.d (D.b false), V.d (D.s [])] []]) =
            some (.t [.d (.g (if c ≠ 101 ∧ c ≠ 69 then ((⟨neg, w, p, false, []⟩ : Tx), false) else (⟨neg, w, p, (signB r).1, (signB r).2.takeWhile isDig⟩, decide ((signB r).2.takeWhile isDig ≠ []) && decide ((signB r).2.dropWhile isDig = []))).1.g), .d (.b (if c ≠ 101 ∧ c ≠ 69 then ((⟨neg, w, p, false, []⟩ : Tx), false) else (⟨neg, w, p, (signB r).1, (signB r).2.takeWhile isDig⟩, decide ((signB r).2.takeWhile isDig ≠ []) && decide ((signB r).2.dropWhile isDig = []))).2)], []) := by
          intro bb hbb
          rw [f20_at447]
          by_cases hx : c ≠ 101 ∧ c ≠ 69
          · have : bb = true := by rw [hbb]; simp only [decide_eq_true_eq]; exact hx
            subst this
            rw [if_pos hx]
            simp [Tx.g]
          · have : bb = false := by rw [hbb]; simp only [decide_eq_false_iff_not]; exact hx
            subst this
            rw [if_neg hx]
            have e : (List.take ((c :: r).length - 1) (List.drop 1 (c :: r))) = r := by simp
            have hle : ((0 : Int) ≤ 1 ∧ (1 : Int) ≤ (((c :: r).length : Nat) : Int)) := ⟨by decide, by rw [List.length_cons]; omega⟩
            have hrl : r.length ≤ 1000000 := by simp at hs; omega
            have hrun := run_s (signB r).2 (Nat.le_trans (signB_len r) hrl)
            simp only [interp_brB, Bool.false_eq_true, if_false, interp_ift', decide_eq_true hle, if_true, e, interp_call', signed_s, hrun, Option.bind_some, List.isEmpty_nil, unT_t, len2, List.getD_cons_zero, List.getD_cons_succ, asD_d, asB_b, asS_s, interp_ret, beq_nil]
            by_cases hz : (signB r).2.takeWhile isDig = [] <;> simp [hz, Tx.g]
        simp only [interp_brB, Bool.false_eq_true, if_false, hne, getI_zero, List.getElem?_cons_zero, interp_ob', Option.bind_some, u8_101, u8_69, interp_call_ret, decide_eq_true_eq]
        by_cases h1 : c = 101
        · rw [if_neg (by simp [h1])]
          exact fin false (by simp [h1])
        · rw [if_pos (by simp [h1])]
          exact fin _ (by simp [h1])
  simp only [interp_brB, interp_call_ret]
  by_cases h : w = []
  · rw [if_pos (by simp [h])]; exact key _ (by simp [h])
  · rw [if_neg (by simp [h])]; exact key _ (by simp [h])
theorem split_s (s : List UInt8) (hs : s.length ≤ 1000000) : rk Tryd.prog pol (Task.call 109 [V.d (D.s s)] []) = some (.t [.d (.g (splitB s).1.g), .d (.b (splitB s).2)], []) := by
  rw [f20]
  have l1 := signB_len s
  have hrun := run_s (signB s).2 (by omega)
  have l2 := drop_len (signB s).2
  simp only [interp_brB, if_true, interp_call', signed_s, hrun, Option.bind_some, List.isEmpty_nil, interp_ift', unT_t, len2, List.getD_cons_zero, List.getD_cons_succ, asD_d, asB_b, asS_s, splitB]
  generalize (signB s).2.dropWhile isDig = s2 at l2
  generalize (signB s).2.takeWhile isDig = w
  generalize (signB s).1 = n
  have ret : ∀ R : Option Out, (R.bind fun o => interp (rk Tryd.prog pol) (Tr.ret o)) = R := fun R => by cases R <;> rfl
  cases s2 with
  | nil =>
    have h0 : (!([] : List UInt8) == []) = false := by simp
    have := split_fin n w [] [] (by simp)
    simp only [h0, Bool.false_eq_true, if_false, ret]
    rw [f20_at55]
    rw [interp_brB, if_neg (by decide)]
    exact this
  | cons c r =>
    have h0 : (!(c :: r) == ([] : List UInt8)) = true := by simp
    simp only [h0, if_true, getI_zero, List.getElem?_cons_zero, interp_ob', Option.bind_some, u8_46, ret, interp_call_ret]
    have hl : (c :: r).length ≤ 1000000 := by omega
    rw [f20_at55]
    by_cases h1 : c = 46
    · have e : (List.take ((c :: r).length - 1) (List.drop 1 (c :: r))) = r := by simp
      have hle : ((0 : Int) ≤ 1 ∧ (1 : Int) ≤ (((c :: r).length : Nat) : Int)) := ⟨by decide, by rw [List.length_cons]; omega⟩
      have hr := run_s r (by simp at hl; omega)
      have l3 := drop_len r
      have := split_fin n w (r.takeWhile isDig) (r.dropWhile isDig) (by simp at hl; omega)
      rw [if_pos h1]
      rw [interp_brB, if_pos (by simp [h1])]
      simp only [if_true, interp_ift', decide_eq_true hle, e, interp_call', hr, Option.bind_some, List.isEmpty_nil, unT_t, len2, List.getD_cons_zero, List.getD_cons_succ, asD_d, asS_s]
      by_cases hz : r.takeWhile isDig = []
      · simp [hz, Tx.g]
      · rw [if_neg hz]
        rw [interp_brB, if_neg (by simp [hz])]
        exact this
    · rw [if_neg h1]
      have := split_fin n w [] (c :: r) hl
      rw [interp_brB, if_neg (by simp [h1])]
      exact this
end Go.Dn.Dec
namespace Go.Dn.Dec
open Go.Proofs
set_option exponentiation.threshold 5000000
def digV (c : UInt8) : Nat := c.toNat - 48
def numF (v : Nat) (d : List UInt8) : Nat := d.foldl (fun a c => a * 10 + digV c) v
def numB (d : List UInt8) : Nat := numF 0 d
theorem isDig_iff (c : UInt8) : isDig c = true ↔ 48 ≤ c.toNat ∧ c.toNat ≤ 57 := by simp [isDig]
theorem digV_lt {c : UInt8} (h : isDig c = true) : digV c < 10 := by have := (isDig_iff c).1 h; unfold digV; omega
theorem decode_dig (s : List UInt8) (i : Nat) (c : UInt8) (h : s[i]? = some c) (hc : c.toNat < 128) : (Utf8.decode (ByteArray.mk s.toArray) i).2 = 1 := by
  have hb : ((ByteArray.mk s.toArray).get! (i + 0)).toNat = c.toNat := by
    show (s.toArray[i]!).toNat = c.toNat
    have : s.toArray[i]! = c := by
      rw [Array.getElem!_eq_getD, Array.getD_eq_getD_getElem?, List.getElem?_toArray, h]; rfl
    rw [this]
  unfold Utf8.decode
  simp only [hb]
  rw [if_pos hc]
theorem pow10_lt {n : Nat} (h : n ≤ 1000) : 10 ^ n < 2 ^ 4000 := by
  have h1 : 10 ^ n ≤ 10 ^ 1000 := Nat.pow_le_pow_right (by decide) h
  have h2 : 10 ^ 1000 ≤ 16 ^ 1000 := Nat.pow_le_pow_left (by decide) 1000
  have h3 : (16 : Nat) ^ 1000 = 2 ^ 4000 := by rw [show (16 : Nat) = 2 ^ 4 from rfl, ← Nat.pow_mul]
  have h4 : (10 : Nat) ^ 1000 < 16 ^ 1000 := Nat.pow_lt_pow_left (by decide) (by decide)
  omega
theorem numF_lt : ∀ (d : List UInt8) (v k : Nat), (∀ c ∈ d, isDig c = true) → v < 10 ^ k → numF v d < 10 ^ (k + d.length)
  | [], v, k, _, h => h
  | c :: d, v, k, hd, h => by
    have hc := digV_lt (hd c (by simp))
    have h2 : v * 10 + digV c < 10 ^ (k + 1) := by rw [Nat.pow_succ]; omega
    have := numF_lt d (v * 10 + digV c) (k + 1) (fun c h => hd c (by simp [h])) h2
    rw [List.length_cons, show k + (d.length + 1) = k + 1 + d.length by omega]
    exact this
theorem u8_sub {c : UInt8} (h : isDig c = true) : IntKind.u8.wrap ((c.toNat : Int) - 48) = (digV c : Int) := by
  have := (isDig_iff c).1 h
  unfold digV
  rw [wrap_u8] <;> omega
theorem num_loop : ∀ (r p : List UInt8) (b : Bool) (v : Nat) (fl : List (Nat × Nat)), (fl = [(3, 1)] ∧ p = [] ∨ fl = []) → (∀ c ∈ r, isDig c = true) → (p ++ r).length ≤ 100 → v < 10 ^ p.length →
    rk Tryd.prog pol (Task.at_ 111 0 [false, true, false, true, true] (sv 21 [(0, V.d (D.s (p ++ r))), (3, V.d (D.l b (ws v))), (6, V.it 0)]) fl [Ob.iter (p ++ r) p.length]) =
      some (.d (.l (if r = [] then b else nb (numF v r)) (ws (numF v r))), [])
  | [], p, b, v, fl, hfl, hd, hl, hv => by
    rcases hfl with ⟨rfl, rfl⟩ | rfl
    · rw [List.append_nil, List.length_nil, f22_at43]; simp [numF]
    · rw [List.append_nil, f22_at43_1]; simp [numF]
  | c :: r, p, b, v, fl, hfl, hd, hl, hv => by
    have hc := hd c (by simp)
    have hcl := digV_lt hc
    have hlen : p.length + (r.length + 1) ≤ 100 := by simpa using hl
    have hi : p.length < (p ++ c :: r).length := by simp
    have g : (p ++ c :: r)[p.length]? = some c := by simp
    have hdec := decode_dig _ _ _ g (by have := (isDig_iff c).1 hc; omega)
    have hpl : (p ++ [c]).length = p.length + 1 := by simp
    have hv2 : v * 10 + digV c < 10 ^ (p ++ [c]).length := by rw [hpl, Nat.pow_succ]; omega
    have fb : ∀ k, k < 10 ^ (p ++ [c]).length → Fits k := fun k hk => (mid_lt (Nat.lt_of_lt_of_le hk (Nat.le_of_lt (pow10_lt (by rw [hpl]; omega))))).fits
    have h10 : rk Tryd.prog pol (Task.call 62 [V.d (D.i .u64 10)] []) = some (.d (.l (nb 10) (ws 10)), []) := of_ws 10 (by decide)
    have hm := mul_ws b (nb 10) v 10 (fb v (by omega)) (fits_two (Nat.lt_of_lt_of_le (show (10:Nat) < 2 ^ 4 by decide) (Nat.pow_le_pow_right (by decide) (by decide))))
    have hw : IntKind.u64.wrap (digV c : Int) = (digV c : Int) := by rw [u64_wrap]; omega
    have ho := of_ws (digV c) (by omega)
    have ha := add_ws (nb (v * 10)) (nb (digV c)) (v * 10) (digV c) (fb _ (by omega)) (fb _ (by omega))
    have ih := num_loop r (p ++ [c]) (nb (v * 10 + digV c)) (v * 10 + digV c) [] (Or.inr rfl) (fun c h => hd c (by simp [h])) (by simpa using hl) hv2
    rw [List.append_assoc, List.singleton_append, hpl] at ih
    have hfin : (if r = [] then nb (v * 10 + digV c) else nb (numF (v * 10 + digV c) r)) = nb (numF v (c :: r)) := by
      show _ = nb (numF (v * 10 + digV c) r)
      split
      · rename_i h; subst h; rfl
      · rfl
    rw [hfin, show numF (v * 10 + digV c) r = numF v (c :: r) from rfl] at ih
    rw [if_neg (by simp)]
    rcases hfl with ⟨rfl, rfl⟩ | rfl
    · rw [List.length_nil] at hdec g
      simp only [List.length_nil, List.nil_append] at *
      rw [f22_at43]
      simp only [interp_brB, decide_eq_true hi, if_true, interp_call', h10, Option.bind_some, List.isEmpty_nil, interp_ift', asD_d, asL_l, hm, getI_zero, g, interp_ob', u8_sub hc, hw, ho, ha, hdec, interp_ret, ih]
    · rw [f22_at43_1]
      simp only [interp_brB, decide_eq_true hi, if_true, interp_call', h10, Option.bind_some, List.isEmpty_nil, interp_ift', asD_d, asL_l, hm, getI_nat, g, interp_ob', u8_sub hc, hw, ho, ha, hdec, interp_ret, ih]
theorem number_s (d : List UInt8) (hd : ∀ c ∈ d, isDig c = true) (hl : d.length ≤ 100) : rk Tryd.prog pol (Task.call 111 [V.d (D.s d)] []) = some (.d (.l (nb (numB d)) (ws (numB d))), []) := by
  rw [f22, interp_call_ret]
  have := num_loop d [] true 0 [(3, 1)] (Or.inl ⟨rfl, rfl⟩) hd (by simpa using hl) (by decide)
  rw [List.nil_append, ws_zero] at this
  refine Eq.trans this ?_
  congr 4
  by_cases h : d = []
  · subst h; rfl
  · rw [if_neg h]; rfl
/-! ### The exponent -/
def powB (t : Tx) : Int × Bool :=
  if 3 < (t.ex.dropWhile (· == 48)).length then (0, false)
  else
    let n : Int := if t.en = true then -(numB (t.ex.dropWhile (· == 48)) : Int) else (numB (t.ex.dropWhile (· == 48)) : Int)
    (n, decide (-400 ≤ n) && decide (n ≤ 400))
theorem pow_loop (t : Tx) : ∀ (r p : List UInt8) (v : Nat) , (∀ c ∈ r, isDig c = true) → (p ++ r).length ≤ 3 → v < 10 ^ p.length →
    rk Tryd.prog pol (Task.at_ 110 0 [false, true, false, true, true, true, true] (sv 37 [(1, V.p 0 0), (4, V.d (D.s (p ++ r))), (5, V.d (D.i .i64 (v : Int))), (14, V.it 1)]) [] [Ob.iter (p ++ r) p.length, Ob.cells [V.d (D.b t.neg), V.d (D.s t.whole), V.d (D.s t.part), V.d (D.b t.en), V.d (D.s t.ex)] []]) =
      (let n : Int := if t.en = true then -(numF v r : Int) else (numF v r : Int)
       some (.t [.d (.i .i64 n), .d (.b (decide (-400 ≤ n) && decide (n ≤ 400)))], []))
  | [], p, v, hd, hl, hv => by
    have hv1 : v < 1000 := Nat.lt_of_lt_of_le hv (show 10 ^ p.length ≤ 10 ^ 3 from Nat.pow_le_pow_right (by decide) (by simpa using hl))
    have hw : IntKind.i64.wrap (0 - (v : Int)) = -(v : Int) := by rw [wrap_i64] <;> omega
    have fin : ∀ n : Int, rk Tryd.prog pol (Task.at_ 110 0 [true, true, true, true, true, true] (sv 37 [(5, V.d (D.i IntKind.i64 n))]) [] []) = some (.t [.d (.i .i64 n), .d (.b (decide (-400 ≤ n) && decide (n ≤ 400)))], []) := by
      intro n
      rw [f21_at127]
      by_cases h : n ≥ -400
      · simp [h]
      · simp [h]
    have hlt : ¬ p.length < p.length := by omega
    rw [List.append_nil, f21_at175_1]
    simp only [interp_brB, decide_eq_false hlt, Bool.false_eq_true, if_false, hw, interp_call_ret, fin, numF, List.foldl_nil]
    by_cases h : t.en = true <;> simp [h]
  | c :: r, p, v, hd, hl, hv => by
    have hc := hd c (by simp)
    have hcl := digV_lt hc
    have hi : p.length < (p ++ c :: r).length := by simp
    have g : (p ++ c :: r)[p.length]? = some c := by simp
    have hdec := decode_dig _ _ _ g (by have := (isDig_iff c).1 hc; omega)
    have hpl : (p ++ [c]).length = p.length + 1 := by simp
    have hlen : p.length + (r.length + 1) ≤ 3 := by simpa using hl
    have hv2 : v * 10 + digV c < 10 ^ (p ++ [c]).length := by rw [hpl, Nat.pow_succ]; omega
    have hv1 : v < 1000 := Nat.lt_of_lt_of_le hv (show 10 ^ p.length ≤ 10 ^ 3 from Nat.pow_le_pow_right (by decide) (by omega))
    have ih := pow_loop t r (p ++ [c]) (v * 10 + digV c) (fun c h => hd c (by simp [h])) (by simpa using hl) hv2
    rw [List.append_assoc, List.singleton_append, hpl] at ih
    have hw1 : IntKind.i64.wrap (10 * (v : Int)) = 10 * (v : Int) := by rw [wrap_i64] <;> omega
    have hw2 : IntKind.i64.wrap (digV c : Int) = (digV c : Int) := by rw [wrap_i64] <;> omega
    have hw3 : IntKind.i64.wrap (10 * (v : Int) + (digV c : Int)) = ((v * 10 + digV c : Nat) : Int) := by rw [wrap_i64] <;> omega
    rw [f21_at175_1]
    simp only [interp_brB, decide_eq_true hi, if_true, getI_nat, g, interp_ob', Option.bind_some, u8_sub hc, hw1, hw2, hw3, hdec, interp_call_ret, ih]
    rfl
theorem power_s (t : Tx) (hd : ∀ c ∈ t.ex, isDig c = true) : rk Tryd.prog pol (Task.call 110 [V.d (D.g t.g)] []) = some (.t [.d (.i .i64 (powB t).1), .d (.b (powB t).2)], []) := by
  show rk Tryd.prog pol (Task.call 110 [V.d (D.g [.b t.neg, .s t.whole, .s t.part, .b t.en, .s t.ex])] []) = _
  rw [f21]
  have ht : rk Tryd.prog pol (Task.call 108 [V.d (D.s t.ex), V.d (D.s [48])] []) = some (.d (.s (t.ex.dropWhile (· == 48))), []) := by
    rw [ext_call (g := trimLeftExt) rfl]; rfl
  have hdd : ∀ c ∈ t.ex.dropWhile (· == 48), isDig c = true := fun c h => hd c ((List.dropWhile_sublist _).subset h)
  unfold powB
  generalize t.ex.dropWhile (· == 48) = d at ht hdd ⊢
  by_cases h : 3 < d.length
  · have h' : (d.length : Int) > 3 := by omega
    simp [ht, h, h']
  · have h' : ¬ (d.length : Int) > 3 := by omega
    have hpl := pow_loop t d [] 0 hdd (by simp; omega) (by decide)
    rw [List.nil_append] at hpl
    rw [if_neg h]
    simp only [interp_call', ht, Option.bind_some, List.isEmpty_nil, interp_ift', if_true, asD_d, asS_s, interp_brB, decide_eq_false h', Bool.false_eq_true, if_false, interp_ret]
    rw [show ((0 : Nat) : Int) = 0 from rfl, List.length_nil] at hpl
    rw [hpl]
    rfl
/-! ### Parse -/
def ratB (m : Int) (x : Nat) : Nat × Nat := if 0 < m then (x * 10 ^ m.toNat, 1) else (x, 10 ^ (-m).toNat)
def parseB (s : List UInt8) : Nat × Int :=
  if (splitB s).2 = false then (0, 2)
  else if 60 < (splitB s).1.whole.length + (splitB s).1.part.length then (0, 4)
  else if (powB (splitB s).1).2 = false then (0, 5)
  else
    let r := ratB ((powB (splitB s).1).1 - (splitB s).1.part.length) (numB ((splitB s).1.whole ++ (splitB s).1.part))
    if (bitsN r.1 r.2).2 = false then (0, 5) else (signV (splitB s).1.neg (bitsN r.1 r.2).1, 0)
def TxOk (t : Tx) : Prop := (∀ c ∈ t.whole, isDig c = true) ∧ (∀ c ∈ t.part, isDig c = true) ∧ (∀ c ∈ t.ex, isDig c = true)
theorem take_dig (s : List UInt8) : ∀ c ∈ s.takeWhile isDig, isDig c = true := by
  intro c hc
  induction s with
  | nil => simp at hc
  | cons a s ih =>
    rw [List.takeWhile_cons] at hc
    split at hc
    · rename_i h
      rcases List.mem_cons.1 hc with rfl | hc
      · exact h
      · exact ih hc
    · simp at hc
theorem finB_ok (neg : Bool) (w p s : List UInt8) (hw : ∀ c ∈ w, isDig c = true) (hp : ∀ c ∈ p, isDig c = true) : TxOk (finB neg w p s).1 := by
  unfold finB
  split
  · exact ⟨hw, hp, by simp⟩
  · split
    · exact ⟨hw, hp, by simp⟩
    · split
      · exact ⟨hw, hp, by simp⟩
      · exact ⟨hw, hp, take_dig _⟩
theorem finB_len (neg : Bool) (w p s : List UInt8) : (finB neg w p s).1.whole = w ∧ (finB neg w p s).1.part = p := by
  unfold finB
  split
  · exact ⟨rfl, rfl⟩
  · split
    · exact ⟨rfl, rfl⟩
    · split <;> exact ⟨rfl, rfl⟩
theorem take_len (s : List UInt8) : (s.takeWhile isDig).length ≤ s.length := List.takeWhile_sublist isDig |>.length_le
theorem splitB_len (s : List UInt8) : (splitB s).1.whole.length ≤ s.length ∧ (splitB s).1.part.length ≤ s.length := by
  have h1 := signB_len s
  have h2 := take_len (signB s).2
  have h3 := drop_len (signB s).2
  unfold splitB
  simp only
  split
  · rw [(finB_len _ _ _ _).1, (finB_len _ _ _ _).2]; exact ⟨by omega, by simp⟩
  · rename_i c r e
    rw [e, List.length_cons] at h3
    split
    · split
      · exact ⟨by simp only; omega, by simp⟩
      · have h4 := take_len r
        rw [(finB_len _ _ _ _).1, (finB_len _ _ _ _).2]; exact ⟨by omega, by omega⟩
    · rw [(finB_len _ _ _ _).1, (finB_len _ _ _ _).2]; exact ⟨by omega, by simp⟩
theorem splitB_ok (s : List UInt8) : TxOk (splitB s).1 := by
  unfold splitB
  have h1 := take_dig (signB s).2
  simp only
  split
  · exact finB_ok _ _ _ _ h1 (by simp)
  · split
    · split
      · exact ⟨h1, by simp, by simp⟩
      · exact finB_ok _ _ _ _ h1 (take_dig _)
    · exact finB_ok _ _ _ _ h1 (by simp)
theorem numB_lt (d : List UInt8) (hd : ∀ c ∈ d, isDig c = true) : numB d < 10 ^ d.length := by
  have := numF_lt d 0 0 hd (by decide)
  rwa [Nat.zero_add] at this
theorem ratB_mid {m : Int} {x : Nat} (hx : x < 10 ^ 60) (h1 : -500 ≤ m) (h2 : m ≤ 500) : Mid (ratB m x).1 ∧ Mid (ratB m x).2 ∧ 0 < (ratB m x).2 := by
  unfold ratB
  split
  · refine ⟨?_, mid_one, Nat.one_pos⟩
    refine mid_lt (Nat.lt_trans ?_ (pow10_lt (n := 60 + m.toNat) (by omega)))
    rw [Nat.pow_add]
    exact Nat.mul_lt_mul_of_pos_right hx (Nat.pow_pos (by decide))
  · exact ⟨mid_lt (Nat.lt_trans hx (pow10_lt (by decide))), mid_lt (pow10_lt (by omega)), Nat.pow_pos (by decide)⟩
theorem powB_le {t : Tx} (h : (powB t).2 = true) : -400 ≤ (powB t).1 ∧ (powB t).1 ≤ 400 := by
  unfold powB at h ⊢
  split
  · rename_i h3; rw [if_pos h3] at h; simp at h
  · rename_i h3; rw [if_neg h3] at h
    simpa using h
theorem parse_s (s : List UInt8) (hs : s.length ≤ 1000000) : rk Tryd.prog pol (Task.call 87 [V.d (D.s s)] []) = some (.t [.d (.i .u64 ((parseB s).1 : Nat)), .d (.i .i64 (parseB s).2)], []) := by
  rw [f13]
  have h1 := split_s s hs
  obtain ⟨o1, o2, o3⟩ := splitB_ok s
  obtain ⟨k1, k2⟩ := splitB_len s
  unfold parseB
  generalize splitB s = T at *
  obtain ⟨t, is⟩ := T
  simp only at o1 o2 o3 k1 k2 h1 ⊢
  have ones : ([V.d (D.b t.neg), V.d (D.s t.whole), V.d (D.s t.part), V.d (D.b t.en), V.d (D.s t.ex)].all V.one) = true := rfl
  have g0 : t.g.getD 0 (D.b false) = .b t.neg := rfl
  have g1 : t.g.getD 1 (D.b false) = .s t.whole := rfl
  have g2 : t.g.getD 2 (D.b false) = .s t.part := rfl
  have g3 : t.g.getD 3 (D.b false) = .b t.en := rfl
  have g4 : t.g.getD 4 (D.b false) = .s t.ex := rfl
  have g5 : t.g.length = 5 := rfl
  have hpw := power_s t o3
  rw [show t.g = [.b t.neg, .s t.whole, .s t.part, .b t.en, .s t.ex] from rfl] at hpw
  simp only [interp_call', h1, Option.bind_some, List.isEmpty_nil, interp_ift', if_true, unT_t, len2, List.getD_cons_zero, List.getD_cons_succ, asD_d, asB_b, interp_asG, g5, interp_brB, g0, g1, g2, g3, g4, ones, asS_s]
  cases is with
  | false => simp
  | true =>
    simp only [Bool.not_true, Bool.false_eq_true, if_false]
    by_cases hl : 60 < t.whole.length + t.part.length
    · have hw : IntKind.i64.wrap ((t.whole.length : Int) + (t.part.length : Int)) = (t.whole.length : Int) + (t.part.length : Int) := by rw [wrap_i64] <;> omega
      have h2 : (t.whole.length : Int) + (t.part.length : Int) > 60 := by omega
      rw [hw, decide_eq_true h2, if_pos rfl, if_neg (by decide), if_pos hl]
      rfl
    · have hw : IntKind.i64.wrap ((t.whole.length : Int) + (t.part.length : Int)) = (t.whole.length : Int) + (t.part.length : Int) := by rw [wrap_i64] <;> omega
      have h2 : ¬ (t.whole.length : Int) + (t.part.length : Int) > 60 := by omega
      rw [hw, decide_eq_false h2, if_neg (by decide), if_neg (by decide), if_neg hl]
      simp only [interp_call', hpw, Option.bind_some, List.isEmpty_nil, interp_ift', if_true, unT_t, len2, List.getD_cons_zero, List.getD_cons_succ, asD_d, asB_b, interp_asI, interp_brB]
      have hple := @powB_le t
      generalize powB t = N at hpw hple ⊢
      obtain ⟨n, ok⟩ := N
      cases ok with
      | false => simp
      | true =>
        have hn := hple rfl
        simp only at hn
        have hcat : t.whole.length + t.part.length < 4611686018427387904 := by omega
        have hdig : ∀ c ∈ t.whole ++ t.part, isDig c = true := fun c hc => (List.mem_append.1 hc).elim (o1 c) (o2 c)
        have hnum := number_s (t.whole ++ t.part) hdig (by simp; omega)
        have hx : numB (t.whole ++ t.part) < 10 ^ 60 := Nat.lt_of_lt_of_le (numB_lt _ hdig) (Nat.pow_le_pow_right (by decide) (by simp; omega))
        generalize numB (t.whole ++ t.part) = x at hnum hx ⊢
        have hwm : IntKind.i64.wrap (n - (t.part.length : Int)) = n - (t.part.length : Int) := by rw [wrap_i64] <;> omega
        have hm1 : -500 ≤ n - (t.part.length : Int) := by omega
        have hm2 : n - (t.part.length : Int) ≤ 500 := by omega
        generalize n - (t.part.length : Int) = m at hwm hm1 hm2 ⊢
        obtain ⟨r1, r2, r3⟩ := ratB_mid hx hm1 hm2
        have fin : ∀ b c : Bool, rk Tryd.prog pol (Task.at_ 87 0 [true, true, true, true, true, true, true, true] (sv 68 [(4, V.p 0 0), (7, V.d (D.l b (ws (ratB m x).1))), (8, V.d (D.l c (ws (ratB m x).2)))]) []
            [Ob.cells [V.d (D.b t.neg), V.d (D.s t.whole), V.d (D.s t.part), V.d (D.b t.en), V.d (D.s t.ex)] []]) =
          some (.t [.d (.i .u64 (((if (bitsN (ratB m x).1 (ratB m x).2).2 = false then ((0 : Nat), (5 : Int)) else (signV t.neg (bitsN (ratB m x).1 (ratB m x).2).1, 0))).1 : Nat)), .d (.i .i64 ((if (bitsN (ratB m x).1 (ratB m x).2).2 = false then ((0 : Nat), (5 : Int)) else (signV t.neg (bitsN (ratB m x).1 (ratB m x).2).1, 0))).2)], []) := by
          intro b c
          rw [f13_at511]
          have hb := bitsOf_ws b c _ _ r1 r2 r3
          have hlt := bitsN_lt (ratB m x).1 (ratB m x).2 r3
          have hsg := (sign_or hlt).1
          generalize bitsN (ratB m x).1 (ratB m x).2 = B at hb hlt hsg ⊢
          obtain ⟨v, ok⟩ := B
          simp only at hlt hsg hb ⊢
          simp only [interp_call', hb, Option.bind_some, List.isEmpty_nil, interp_ift', if_true, unT_t, len2, List.getD_cons_zero, List.getD_cons_succ, asD_d, asB_b, interp_asI, interp_brB, hsg, f13_at4095, interp_ret]
          cases ok with
          | false => simp
          | true =>
            cases ht : t.neg <;> simp [signV]
        simp only [Bool.not_true, Bool.false_eq_true, if_false, decide_eq_true hcat, if_true, hnum, of_one, Option.bind_some, List.isEmpty_nil, asD_d, asL_l, interp_ift', hwm, interp_ret]
        by_cases hm : 0 < m
        · have e : m = (m.toNat : Int) := by omega
          have ht := ten_ws m.toNat (by omega)
          rw [← e] at ht
          have hmul := mul_ws (nb x) (nb (10 ^ m.toNat)) x (10 ^ m.toNat) (mid_lt (Nat.lt_trans hx (pow10_lt (by decide)))).fits (mid_lt (pow10_lt (by omega))).fits
          have er : ratB m x = (x * 10 ^ m.toNat, 1) := by rw [ratB, if_pos hm]
          rw [er] at fin ⊢
          have hm' : m > 0 := hm
          simp only [decide_eq_true hm', interp_brB, of_one, ht, hmul, Option.bind_some, List.isEmpty_nil, if_true, asD_d, asL_l, interp_ift', interp_call', interp_ret, fin, Bool.true_eq_false, if_false]
        · have hwn : IntKind.i64.wrap (0 - m) = ((-m).toNat : Int) := by rw [wrap_i64] <;> omega
          have ht := ten_ws (-m).toNat (by omega)
          have er : ratB m x = (x, 10 ^ (-m).toNat) := by rw [ratB, if_neg hm]
          rw [er] at fin ⊢
          have hm' : ¬ m > 0 := hm
          simp only [decide_eq_false hm', hwn, interp_brB, of_one, ht, Option.bind_some, List.isEmpty_nil, if_true, asD_d, asL_l, interp_ift', interp_call', interp_ret, fin, Bool.true_eq_false, Bool.false_eq_true, if_false]
end Go.Dn.Dec
