/- the document's answer. Printed by a program of mine. -/
import Derived.Test.YtbjllhjbhdjfjaaGreatDoorZe1
import Derived.Test.YtbjllhjbhdjfjaaGreatDoorDn4
import Derived.KernelRfl
import Derived.Test.YtbjllhjbhdjfjaaGreatDoorZe2
import Derived.Test.YtbjllhjbhdjfjaaGreatDoorZt1
namespace Go.Dn.Dec
open Go.Proofs
theorem f58 (b : Bool) (xs : List D) : rk Tryz.prog pol (Task.call 152 [V.d (D.l b xs)] []) = interp (rk Tryz.prog pol) ( Tr.call (Task.at_ 152 0 [false, false, true, true] (sv 23 [(0, V.d (D.l b xs)), (3, V.d (D.i .i64 (↑xs.length : Int)))]) [] []) Tr.ret) :=
 rk_of (by kernel_rfl)
theorem f58m (n : Nat) (cs : List V) : rk Tryz.prog pol (Task.call 152 [V.m 0 0 n] [Ob.cells cs []]) = interp (rk Tryz.prog pol) ( Tr.call (Task.at_ 152 1 [false, false, true, true] (sv 23 [(0, V.m 0 0 n), (3, V.d (D.i .i64 (↑n : Int)))]) [] [Ob.cells cs []]) Tr.ret) :=
 rk_of (by kernel_rfl)
theorem f30 (n : Int) : rk Tryz.prog pol (Task.call 101 [V.d (D.i .u64 n)] []) = interp (rk Tryz.prog pol) ( Tr.call (Task.call 152 [V.d (D.l true [D.i .u32 (IntKind.u32.wrap n), D.i .u32 (IntKind.u32.wrap (n.fdiv 4294967296))])] []) fun o_0 => ift o_0.snd.isEmpty (asD o_0.fst fun d_1 => asL d_1 fun b_2 l_3 => Tr.ret (V.d (D.l b_2 l_3), []))) :=
 rk_of (by kernel_rfl)
theorem f31 (n : Int) : rk Tryz.prog pol (Task.call 106 [V.d (D.i .i64 n)] []) = interp (rk Tryz.prog pol) ( brB (decide (n < 0)) (Tr.ret (V.d (D.l true []), [])) (Tr.call (Task.at_ 106 0 [false, true, false, true, true, true] (sv 17 [(0, V.d (D.i .i64 n)), (3, V.d (D.l true [D.i .u32 1])), (4, V.d (D.i .i64 0))]) [] []) Tr.ret)) :=
 rk_of (by kernel_rfl)
theorem f29 (b : Bool) (xs : List D) (c : Bool) (ys : List D) : rk Tryz.prog pol (Task.call 105 [V.d (D.l b xs), V.d (D.l c ys)] []) = interp (rk Tryz.prog pol) ( ift (decide (0 ≤ IntKind.i64.wrap (IntKind.i64.wrap ((↑xs.length : Int) + (↑ys.length : Int)) + 1))) (ift (decide (IntKind.i64.wrap (IntKind.i64.wrap ((↑xs.length : Int) + (↑ys.length : Int)) + 1) = IntKind.i64.wrap (IntKind.i64.wrap ((↑xs.length : Int) + (↑ys.length : Int)) + 1))) (ift (decide (IntKind.i64.wrap (IntKind.i64.wrap ((↑xs.length : Int) + (↑ys.length : Int)) + 1) ≤ 4294967296)) (Tr.call (Task.at_ 105 0 [false, true, false, true, true] (sv 68 [(0, V.d (D.l b xs)), (1, V.d (D.l c ys)), (5, V.m 0 0 (IntKind.i64.wrap (IntKind.i64.wrap ((↑xs.length : Int) + (↑ys.length : Int)) + 1)).toNat), (6, V.d (D.i .i64 0))]) [] [Ob.cells (List.replicate (IntKind.i64.wrap (IntKind.i64.wrap ((↑xs.length : Int) + (↑ys.length : Int)) + 1)).toNat (V.d (D.i .u32 0))) []]) Tr.ret)))) :=
 rk_of (by kernel_rfl)
theorem f57 (b : Bool) (xs : List D) (n : Int) : rk Tryz.prog pol (Task.call 155 [V.d (D.l b xs), V.d (D.i .i64 n)] []) = interp (rk Tryz.prog pol) ( brB (decide (n < (↑xs.length : Int))) (ob (getI xs n) fun d_0 => ift (d_0.width == 1) (ob xs[n.toNat]? fun d_1 => ob d_1.cells[0]? fun d_2 => asI .u32 d_2 fun n_3 => Tr.ret (V.d (D.i .u64 (IntKind.u64.wrap n_3)), []))) (Tr.ret (V.d (D.i .u64 0), []))) :=
 rk_of (by kernel_rfl)
theorem f28 (b : Bool) (xs : List D) (c : Bool) (ys : List D) : rk Tryz.prog pol (Task.call 109 [V.d (D.l b xs), V.d (D.l c ys)] []) = interp (rk Tryz.prog pol) ( Tr.call (Task.at_ 109 0 [false, true, false, true, true, true] (sv 42 [(0, V.d (D.l b xs)), (1, V.d (D.l c ys)), (5, V.d (D.l true [])), (6, V.d (D.i .u64 0)), (7, V.d (D.i .i64 0))]) [(5, 1)] []) Tr.ret) :=
 rk_of (by kernel_rfl)
theorem f44 (b : Bool) (xs : List D) (c : Bool) (ys : List D) : rk Tryz.prog pol (Task.call 108 [V.d (D.l b xs), V.d (D.l c ys)] []) = interp (rk Tryz.prog pol) ( Tr.call (Task.at_ 108 0 [false, true, false, true] (sv 30 [(0, V.d (D.l b xs)), (1, V.d (D.l c ys)), (5, V.d (D.i .i64 (IntKind.i64.wrap ((if (↑ys.length : Int) > (↑xs.length : Int) then (↑ys.length : Int) else (↑xs.length : Int)) - 1))))]) [] []) Tr.ret) :=
 rk_of (by kernel_rfl)
theorem f69 (b : Bool) (xs : List D) (c : Bool) (ys : List D) : rk Tryz.prog pol (Task.call 154 [V.d (D.l b xs), V.d (D.l c ys)] []) = interp (rk Tryz.prog pol) ( Tr.call (Task.call 108 [V.d (D.l b xs), V.d (D.l c ys)] []) fun o_0 => ift o_0.snd.isEmpty (asD o_0.fst fun d_1 => asI .i64 d_1 fun n_2 => brB (decide (n_2 < 0)) (Tr.ret (V.t [V.d (D.l true []), V.d (D.b false)], [])) (Tr.call (Task.at_ 154 0 [false, true, false, true, true, true, true] (sv 40 [(0, V.d (D.l b xs)), (1, V.d (D.l c ys)), (6, V.d (D.l true [])), (7, V.d (D.i .u64 0)), (8, V.d (D.i .i64 0))]) [(6, 1)] []) Tr.ret))) :=
 rk_of (by kernel_rfl)
theorem f59 (b : Bool) (xs : List D) (n : Int) : rk Tryz.prog pol (Task.call 153 [V.d (D.l b xs), V.d (D.i .i64 n)] []) = interp (rk Tryz.prog pol) ( Tr.call (Task.call 155 [V.d (D.l b xs), V.d (D.i .i64 (IntKind.i64.wrap (n.tdiv 32)))] []) fun o_0 => ift o_0.snd.isEmpty (asD o_0.fst fun d_1 => asI .u64 d_1 fun n_2 => ift (decide (0 ≤ n.tmod 32)) (Tr.ret (V.d (D.i .u64 (IntKind.u64.wrap (↑(BitVec.ofInt IntKind.u64.bits (n_2.fdiv (2 ^ min (n.tmod 32).toNat 64)) &&& BitVec.ofInt IntKind.u64.bits 1).toNat : Int))), [])))) :=
 rk_of (by kernel_rfl)
theorem f41 (b : Bool) (xs : List D) : rk Tryz.prog pol (Task.call 103 [V.d (D.l b xs)] []) = interp (rk Tryz.prog pol) ( Tr.call (Task.call 152 [V.d (D.l b xs)] []) fun o_0 => ift o_0.snd.isEmpty (asD o_0.fst fun d_1 => asL d_1 fun b_2 l_3 => Tr.call (Task.at_ 103 0 [false, false, true, true, true] (sv 22 [(3, V.d (D.l b_2 l_3)), (4, V.d (D.i .i64 (IntKind.i64.wrap (32 * (↑l_3.length : Int)))))]) [] []) Tr.ret)) :=
 rk_of (by kernel_rfl)
theorem f40 (b : Bool) (xs : List D) (n : Int) : rk Tryz.prog pol (Task.call 102 [V.d (D.l b xs), V.d (D.i .i64 n)] []) = interp (rk Tryz.prog pol) ( ift (decide (0 ≤ IntKind.i64.wrap (IntKind.i64.wrap ((↑xs.length : Int) + IntKind.i64.wrap ((if 0 > n then 0 else n).tdiv 32)) + 1))) (ift (decide (IntKind.i64.wrap (IntKind.i64.wrap ((↑xs.length : Int) + IntKind.i64.wrap ((if 0 > n then 0 else n).tdiv 32)) + 1) = IntKind.i64.wrap (IntKind.i64.wrap ((↑xs.length : Int) + IntKind.i64.wrap ((if 0 > n then 0 else n).tdiv 32)) + 1))) (ift (decide (IntKind.i64.wrap (IntKind.i64.wrap ((↑xs.length : Int) + IntKind.i64.wrap ((if 0 > n then 0 else n).tdiv 32)) + 1) ≤ 4294967296)) (Tr.call (Task.at_ 102 0 [false, true, false, true, true] (sv 53 [(0, V.d (D.l b xs)), (1, V.d (D.i .i64 n)), (5, V.m 0 0 (IntKind.i64.wrap (IntKind.i64.wrap ((↑xs.length : Int) + IntKind.i64.wrap ((if 0 > n then 0 else n).tdiv 32)) + 1)).toNat), (6, V.d (D.i .i64 0))]) [] [Ob.cells (List.replicate (IntKind.i64.wrap (IntKind.i64.wrap ((↑xs.length : Int) + IntKind.i64.wrap ((if 0 > n then 0 else n).tdiv 32)) + 1)).toNat (V.d (D.i .u32 0))) []]) Tr.ret)))) :=
 rk_of (by kernel_rfl)
theorem f43 (b : Bool) (xs : List D) (c : Bool) (ys : List D) : rk Tryz.prog pol (Task.call 107 [V.d (D.l b xs), V.d (D.l c ys)] []) = interp (rk Tryz.prog pol) ( Tr.call (Task.call 152 [V.d (D.l c ys)] []) fun o_0 => ift o_0.snd.isEmpty (asD o_0.fst fun d_1 => asL d_1 fun b_2 l_3 => brB ((↑l_3.length : Int) == 0) (Tr.ret (V.t [V.d (D.l true []), V.d (D.l true []), V.d (D.b false)], [])) (ift (decide (0 ≤ IntKind.i64.wrap ((↑xs.length : Int) + 1))) (ift (decide (IntKind.i64.wrap ((↑xs.length : Int) + 1) = IntKind.i64.wrap ((↑xs.length : Int) + 1))) (ift (decide (IntKind.i64.wrap ((↑xs.length : Int) + 1) ≤ 4294967296)) (Tr.call (Task.at_ 107 0 [false, true, false, true, true, true, true] (sv 60 [(0, V.d (D.l b xs)), (1, V.d (D.l c ys)), (7, V.m 0 0 (IntKind.i64.wrap ((↑xs.length : Int) + 1)).toNat), (8, V.d (D.l true [])), (9, V.d (D.i .i64 (IntKind.i64.wrap (IntKind.i64.wrap (32 * (↑xs.length : Int)) - 1))))]) [(8, 1)] [Ob.cells (List.replicate (IntKind.i64.wrap ((↑xs.length : Int) + 1)).toNat (V.d (D.i .u32 0))) []]) Tr.ret)))))) :=
 rk_of (by kernel_rfl)
theorem f45 (b : Bool) (xs : List D) : rk Tryz.prog pol (Task.call 110 [V.d (D.l b xs)] []) = interp (rk Tryz.prog pol) ( Tr.call (Task.call 155 [V.d (D.l b xs), V.d (D.i .i64 0)] []) fun o_0 => ift o_0.snd.isEmpty (asD o_0.fst fun d_1 => asI .u64 d_1 fun n_2 => Tr.call (Task.call 155 [V.d (D.l b xs), V.d (D.i .i64 1)] []) fun o_3 => ift o_3.snd.isEmpty (asD o_3.fst fun d_4 => asI .u64 d_4 fun n_5 => Tr.ret (V.d (D.i .u64 (IntKind.u64.wrap (↑(BitVec.ofInt IntKind.u64.bits n_2 ||| BitVec.ofInt IntKind.u64.bits (IntKind.u64.wrap (n_5 * 4294967296))).toNat : Int))), [])))) :=
 rk_of (by kernel_rfl)
theorem f60 (q : Int) (e : Int) : rk Tryz.prog pol (Task.call 215 [V.d (D.i .u64 q), V.d (D.i .i64 e)] []) = interp (rk Tryz.prog pol) ( brB (q == 9007199254740992) (Tr.call (Task.at_ 215 0 [true, true] (sv 24 [(0, V.d (D.i .u64 (IntKind.u64.wrap (q.tdiv 2)))), (1, V.d (D.i .i64 (IntKind.i64.wrap (e + 1))))]) [] []) Tr.ret) (Tr.call (Task.at_ 215 0 [true, true] (sv 24 [(0, V.d (D.i .u64 q)), (1, V.d (D.i .i64 e))]) [] []) Tr.ret)) :=
 rk_of (by kernel_rfl)
theorem f32 (b : Bool) (xs : List D) (c : Bool) (ys : List D) : rk Tryz.prog pol (Task.call 189 [V.d (D.l b xs), V.d (D.l c ys)] []) = interp (rk Tryz.prog pol) ( brB ((↑xs.length : Int) == 0) (Tr.ret (V.t [V.d (D.i .u64 0), V.d (D.b true)], [])) (Tr.call (Task.call 103 [V.d (D.l b xs)] []) fun o_0 => ift o_0.snd.isEmpty (asD o_0.fst fun d_1 => asI .i64 d_1 fun n_2 => Tr.call (Task.call 103 [V.d (D.l c ys)] []) fun o_3 => ift o_3.snd.isEmpty (asD o_3.fst fun d_4 => asI .i64 d_4 fun n_5 => Tr.call (Task.at_ 189 0 [false, true, true, true] (sv 69 [(0, V.d (D.l b xs)), (1, V.d (D.l c ys)), (6, V.d (D.i .i64 (if -1074 > IntKind.i64.wrap (IntKind.i64.wrap (n_2 - n_5) - 53) then -1074 else IntKind.i64.wrap (IntKind.i64.wrap (n_2 - n_5) - 53))))]) [] []) Tr.ret)))) :=
 rk_of (by kernel_rfl)
theorem f27 (s : List UInt8) : rk Tryz.prog pol (Task.call 188 [V.d (D.s s)] []) = interp (rk Tryz.prog pol) ( brB ((↑s.length : Int) == 0) (Tr.ret (V.t [V.d (D.i .i64 0), V.d (D.b false), V.d (D.i .i64 0)], [])) (ob (getI s 0) fun c_0 => brB ((↑c_0.toNat : Int) != 101) (ob (getI s 0) fun c_1 => Tr.call (Task.at_ 188 0 [true, false, true, true] (sv 75 [(0, V.d (D.s s)), (18, V.d (D.b ((↑c_1.toNat : Int) != 69)))]) [] []) Tr.ret) (Tr.call (Task.at_ 188 0 [true, false, true, true] (sv 75 [(0, V.d (D.s s)), (18, V.d (D.b false))]) [] []) Tr.ret))) :=
 rk_of (by kernel_rfl)
theorem f14 (s : List UInt8) : rk Tryz.prog pol (Task.call 150 [V.d (D.s s)] []) = interp (rk Tryz.prog pol) ( brB (decide ((↑s.length : Int) > 0)) (ob (getI s 0) fun c_0 => brB ((↑c_0.toNat : Int) == 43) (Tr.call (Task.at_ 150 0 [true, false, true, true] (sv 133 [(0, V.d (D.s s)), (4, V.d (D.i .u64 0)), (28, V.d (D.b true))]) [] []) Tr.ret) (ob (getI s 0) fun c_1 => Tr.call (Task.at_ 150 0 [true, false, true, true] (sv 133 [(0, V.d (D.s s)), (4, V.d (D.i .u64 0)), (28, V.d (D.b ((↑c_1.toNat : Int) == 45)))]) [] []) Tr.ret)) (Tr.call (Task.at_ 150 0 [true, false, true, true] (sv 133 [(0, V.d (D.s s)), (4, V.d (D.i .u64 0)), (28, V.d (D.b false))]) [] []) Tr.ret)) :=
 rk_of (by kernel_rfl)
theorem f58_at19 (b_0 : Bool) (l_1 : List D) (n_2 : Int) : rk Tryz.prog pol (Task.at_ 152 0 [false, false, true, true] (sv 23 [(0, V.d (D.l b_0 l_1)), (3, V.d (D.i .i64 n_2))]) [] []) = interp (rk Tryz.prog pol) ( brB (decide (n_2 > 0)) (ob (getI l_1 (IntKind.i64.wrap (n_2 - 1))) fun d_0 => ift (d_0.width == 1) (ob l_1[(IntKind.i64.wrap (n_2 - 1)).toNat]? fun d_1 => ob d_1.cells[0]? fun d_2 => asI .u32 d_2 fun n_3 => Tr.call (Task.at_ 152 0 [true, false, false, false, false, true, true] (sv 23 [(0, V.d (D.l b_0 l_1)), (3, V.d (D.i .i64 n_2)), (15, V.d (D.b (n_3 == 0)))]) [] []) Tr.ret)) (Tr.call (Task.at_ 152 0 [true, false, false, false, false, true, true] (sv 23 [(0, V.d (D.l b_0 l_1)), (3, V.d (D.i .i64 n_2)), (15, V.d (D.b false))]) [] []) Tr.ret)) :=
 rk_of (by kernel_rfl)
theorem f58_at19_1 (m_0 : Nat) (n_1 : Int) (l_2 : List V) : rk Tryz.prog pol (Task.at_ 152 1 [false, false, true, true] (sv 23 [(0, V.m 0 0 m_0), (3, V.d (D.i .i64 n_1))]) [] [Ob.cells l_2 []]) = interp (rk Tryz.prog pol) ( brB (decide (n_1 > 0)) (ift (decide (0 ≤ IntKind.i64.wrap (n_1 - 1) ∧ IntKind.i64.wrap (n_1 - 1) < (↑m_0 : Int))) (ob l_2[0 + (IntKind.i64.wrap (n_1 - 1)).toNat]? fun v_0 => asD v_0 fun d_1 => asI .u32 d_1 fun n_2 => Tr.call (Task.at_ 152 1 [true, false, false, false, false, true, true] (sv 23 [(0, V.m 0 0 m_0), (3, V.d (D.i .i64 n_1)), (15, V.d (D.b (n_2 == 0)))]) [] [Ob.cells l_2 []]) Tr.ret)) (Tr.call (Task.at_ 152 1 [true, false, false, false, false, true, true] (sv 23 [(0, V.m 0 0 m_0), (3, V.d (D.i .i64 n_1)), (15, V.d (D.b false))]) [] [Ob.cells l_2 []]) Tr.ret)) :=
 rk_of (by kernel_rfl)
theorem f31_at87 (n_0 : Int) (b_1 : Bool) (l_2 : List D) (n_3 : Int) : rk Tryz.prog pol (Task.at_ 106 0 [false, true, false, true, true, true] (sv 17 [(0, V.d (D.i .i64 n_0)), (3, V.d (D.l b_1 l_2)), (4, V.d (D.i .i64 n_3))]) [] []) = interp (rk Tryz.prog pol) ( brB (decide (n_3 < n_0)) (Tr.call (Task.call 105 [V.d (D.l b_1 l_2), V.d (D.l true [D.i .u32 10])] []) fun o_0 => ift o_0.snd.isEmpty (asD o_0.fst fun d_1 => asL d_1 fun b_2 l_3 => Tr.call (Task.at_ 106 0 [false, true, false, true, true, true] (sv 17 [(0, V.d (D.i .i64 n_0)), (3, V.d (D.l b_2 l_3)), (4, V.d (D.i .i64 (IntKind.i64.wrap (n_3 + 1))))]) [] []) Tr.ret)) (Tr.ret (V.d (D.l b_1 l_2), []))) :=
 rk_of (by kernel_rfl)
theorem f29_at43 (b_0 : Bool) (l_1 : List D) (b_2 : Bool) (l_3 : List D) (m_4 : Nat) (n_5 : Int) (l_6 : List V) : rk Tryz.prog pol (Task.at_ 105 0 [false, true, false, true, true] (sv 68 [(0, V.d (D.l b_0 l_1)), (1, V.d (D.l b_2 l_3)), (5, V.m 0 0 m_4), (6, V.d (D.i .i64 n_5))]) [] [Ob.cells l_6 []]) = interp (rk Tryz.prog pol) ( brB (decide (n_5 < (↑l_1.length : Int))) (Tr.call (Task.at_ 105 0 [false, true, false, true, false, false, true, false, false, true, false, true, true] (sv 68 [(0, V.d (D.l b_0 l_1)), (1, V.d (D.l b_2 l_3)), (5, V.m 0 0 m_4), (6, V.d (D.i .i64 n_5)), (7, V.d (D.i .u64 0)), (8, V.d (D.i .i64 0))]) [] [Ob.cells l_6 []]) Tr.ret) (Tr.call (Task.call 152 [V.m 0 0 m_4] [Ob.cells l_6 []]) fun o_0 => unCons o_0.snd fun x_1 l_2 => unCells x_1 fun l_3 l_4 => ift (l_3.length == l_6.length) (ift (l_4 == []) (unNil l_2 (asD o_0.fst fun d_5 => asL d_5 fun b_6 l_7 => Tr.ret (V.d (D.l b_6 l_7), [])))))) :=
 rk_of (by kernel_rfl)
theorem f28_at87 (b_0 : Bool) (l_1 : List D) (b_2 : Bool) (l_3 : List D) (b_4 : Bool) (l_5 : List D) (n_6 : Int) (n_7 : Int) : rk Tryz.prog pol (Task.at_ 109 0 [false, true, false, true, true, true] (sv 42 [(0, V.d (D.l b_0 l_1)), (1, V.d (D.l b_2 l_3)), (5, V.d (D.l b_4 l_5)), (6, V.d (D.i .u64 n_6)), (7, V.d (D.i .i64 n_7))]) [(5, 1)] []) = interp (rk Tryz.prog pol) ( brB (decide (n_7 < (↑l_1.length : Int))) (Tr.call (Task.at_ 109 0 [true, false, false, false, true, false, true, true, true] (sv 42 [(0, V.d (D.l b_0 l_1)), (1, V.d (D.l b_2 l_3)), (5, V.d (D.l b_4 l_5)), (6, V.d (D.i .u64 n_6)), (7, V.d (D.i .i64 n_7)), (21, V.d (D.b true))]) [(5, 1)] []) Tr.ret) (brB (decide (n_7 < (↑l_3.length : Int))) (Tr.call (Task.at_ 109 0 [true, false, false, false, true, false, true, true, true] (sv 42 [(0, V.d (D.l b_0 l_1)), (1, V.d (D.l b_2 l_3)), (5, V.d (D.l b_4 l_5)), (6, V.d (D.i .u64 n_6)), (7, V.d (D.i .i64 n_7)), (21, V.d (D.b true))]) [(5, 1)] []) Tr.ret) (Tr.call (Task.at_ 109 0 [true, false, false, false, true, false, true, true, true] (sv 42 [(0, V.d (D.l b_0 l_1)), (1, V.d (D.l b_2 l_3)), (5, V.d (D.l b_4 l_5)), (6, V.d (D.i .u64 n_6)), (7, V.d (D.i .i64 n_7)), (21, V.d (D.b (decide (n_6 > 0))))]) [(5, 1)] []) Tr.ret))) :=
 rk_of (by kernel_rfl)
theorem f44_at21 (b_0 : Bool) (l_1 : List D) (b_2 : Bool) (l_3 : List D) (n_4 : Int) : rk Tryz.prog pol (Task.at_ 108 0 [false, true, false, true] (sv 30 [(0, V.d (D.l b_0 l_1)), (1, V.d (D.l b_2 l_3)), (5, V.d (D.i .i64 n_4))]) [] []) = interp (rk Tryz.prog pol) ( brB (decide (n_4 ≥ 0)) (Tr.call (Task.call 155 [V.d (D.l b_0 l_1), V.d (D.i .i64 n_4)] []) fun o_0 => ift o_0.snd.isEmpty (asD o_0.fst fun d_1 => asI .u64 d_1 fun n_2 => Tr.call (Task.call 155 [V.d (D.l b_2 l_3), V.d (D.i .i64 n_4)] []) fun o_3 => ift o_3.snd.isEmpty (asD o_3.fst fun d_4 => asI .u64 d_4 fun n_5 => brB (decide (n_2 < n_5)) (Tr.ret (V.d (D.i .i64 (-1)), [])) (Tr.call (Task.call 155 [V.d (D.l b_0 l_1), V.d (D.i .i64 n_4)] []) fun o_6 => ift o_6.snd.isEmpty (asD o_6.fst fun d_7 => asI .u64 d_7 fun n_8 => Tr.call (Task.call 155 [V.d (D.l b_2 l_3), V.d (D.i .i64 n_4)] []) fun o_9 => ift o_9.snd.isEmpty (asD o_9.fst fun d_10 => asI .u64 d_10 fun n_11 => brB (decide (n_8 > n_11)) (Tr.ret (V.d (D.i .i64 1), [])) (Tr.call (Task.at_ 108 0 [false, true, false, true] (sv 30 [(0, V.d (D.l b_0 l_1)), (1, V.d (D.l b_2 l_3)), (5, V.d (D.i .i64 (IntKind.i64.wrap (n_4 - 1))))]) [] []) Tr.ret))))))) (Tr.ret (V.d (D.i .i64 0), []))) :=
 rk_of (by kernel_rfl)
theorem f69_at175 (b_0 : Bool) (l_1 : List D) (b_2 : Bool) (l_3 : List D) (b_4 : Bool) (l_5 : List D) (n_6 : Int) (n_7 : Int) : rk Tryz.prog pol (Task.at_ 154 0 [false, true, false, true, true, true, true] (sv 40 [(0, V.d (D.l b_0 l_1)), (1, V.d (D.l b_2 l_3)), (6, V.d (D.l b_4 l_5)), (7, V.d (D.i .u64 n_6)), (8, V.d (D.i .i64 n_7))]) [(6, 1)] []) = interp (rk Tryz.prog pol) ( brB (decide (n_7 < (↑l_1.length : Int))) (Tr.call (Task.call 155 [V.d (D.l b_0 l_1), V.d (D.i .i64 n_7)] []) fun o_0 => ift o_0.snd.isEmpty (asD o_0.fst fun d_1 => asI .u64 d_1 fun n_2 => Tr.call (Task.call 155 [V.d (D.l b_2 l_3), V.d (D.i .i64 n_7)] []) fun o_3 => ift o_3.snd.isEmpty (asD o_3.fst fun d_4 => asI .u64 d_4 fun n_5 => ift (headOk 1 l_5) (ift (b_4 || true) (ift (decide (l_5.length + 1 ≤ 4294967296)) (Tr.call (Task.at_ 154 0 [false, true, false, true, true, true, true] (sv 40 [(0, V.d (D.l b_0 l_1)), (1, V.d (D.l b_2 l_3)), (6, V.d (D.l (b_4 && false) (l_5 ++ [D.i .u32 (IntKind.u32.wrap (IntKind.u64.wrap (IntKind.u64.wrap (IntKind.u64.wrap (n_2 + 4294967296) - n_5) - n_6)))]))), (7, V.d (D.i .u64 (IntKind.u64.wrap (1 - (IntKind.u64.wrap (IntKind.u64.wrap (IntKind.u64.wrap (n_2 + 4294967296) - n_5) - n_6)).fdiv 4294967296)))), (8, V.d (D.i .i64 (IntKind.i64.wrap (n_7 + 1))))]) [(6, 1)] []) Tr.ret)))))) (Tr.call (Task.call 152 [V.d (D.l b_4 l_5)] []) fun o_6 => ift o_6.snd.isEmpty (asD o_6.fst fun d_7 => asL d_7 fun b_8 l_9 => Tr.ret (V.t [V.d (D.l b_8 l_9), V.d (D.b true)], [])))) :=
 rk_of (by kernel_rfl)
theorem f41_at39 (b_0 : Bool) (l_1 : List D) (n_2 : Int) : rk Tryz.prog pol (Task.at_ 103 0 [false, false, true, true, true] (sv 22 [(3, V.d (D.l b_0 l_1)), (4, V.d (D.i .i64 n_2))]) [] []) = interp (rk Tryz.prog pol) ( brB (decide (n_2 > 0)) (Tr.call (Task.call 153 [V.d (D.l b_0 l_1), V.d (D.i .i64 (IntKind.i64.wrap (n_2 - 1)))] []) fun o_0 => ift o_0.snd.isEmpty (asD o_0.fst fun d_1 => asI .u64 d_1 fun n_2_1 => Tr.call (Task.at_ 103 0 [true, false, false, false, false, true, true, true] (sv 22 [(3, V.d (D.l b_0 l_1)), (4, V.d (D.i .i64 n_2)), (18, V.d (D.b (n_2_1 == 0)))]) [] []) Tr.ret)) (Tr.call (Task.at_ 103 0 [true, false, false, false, false, true, true, true] (sv 22 [(3, V.d (D.l b_0 l_1)), (4, V.d (D.i .i64 n_2)), (18, V.d (D.b false))]) [] []) Tr.ret)) :=
 rk_of (by kernel_rfl)
theorem f40_at43 (b_0 : Bool) (l_1 : List D) (n_2 : Int) (m_3 : Nat) (n_4 : Int) (l_5 : List V) : rk Tryz.prog pol (Task.at_ 102 0 [false, true, false, true, true] (sv 53 [(0, V.d (D.l b_0 l_1)), (1, V.d (D.i .i64 n_2)), (5, V.m 0 0 m_3), (6, V.d (D.i .i64 n_4))]) [] [Ob.cells l_5 []]) = interp (rk Tryz.prog pol) ( brB (decide (n_4 < IntKind.i64.wrap (32 * (↑l_1.length : Int)))) (Tr.call (Task.call 153 [V.d (D.l b_0 l_1), V.d (D.i .i64 n_4)] []) fun o_0 => ift o_0.snd.isEmpty (asD o_0.fst fun d_1 => asI .u64 d_1 fun n_2_1 => brB (n_2_1 == 1) (Tr.call (Task.at_ 102 0 [true, false, false, true, false, false, true, false, true, true] (sv 53 [(0, V.d (D.l b_0 l_1)), (1, V.d (D.i .i64 n_2)), (5, V.m 0 0 m_3), (6, V.d (D.i .i64 n_4)), (31, V.d (D.b (decide (IntKind.i64.wrap (n_4 + n_2) ≥ 0))))]) [] [Ob.cells l_5 []]) Tr.ret) (Tr.call (Task.at_ 102 0 [true, false, false, true, false, false, true, false, true, true] (sv 53 [(0, V.d (D.l b_0 l_1)), (1, V.d (D.i .i64 n_2)), (5, V.m 0 0 m_3), (6, V.d (D.i .i64 n_4)), (31, V.d (D.b false))]) [] [Ob.cells l_5 []]) Tr.ret))) (Tr.call (Task.call 152 [V.m 0 0 m_3] [Ob.cells l_5 []]) fun o_3 => unCons o_3.snd fun x_4 l_5_1 => unCells x_4 fun l_6 l_7 => ift (l_6.length == l_5.length) (ift (l_7 == []) (unNil l_5_1 (asD o_3.fst fun d_8 => asL d_8 fun b_9 l_10 => Tr.ret (V.d (D.l b_9 l_10), [])))))) :=
 rk_of (by kernel_rfl)
theorem f43_at175 (b_0 : Bool) (l_1 : List D) (b_2 : Bool) (l_3 : List D) (m_4 : Nat) (b_5 : Bool) (l_6 : List D) (n_7 : Int) (l_8 : List V) : rk Tryz.prog pol (Task.at_ 107 0 [false, true, false, true, true, true, true] (sv 60 [(0, V.d (D.l b_0 l_1)), (1, V.d (D.l b_2 l_3)), (7, V.m 0 0 m_4), (8, V.d (D.l b_5 l_6)), (9, V.d (D.i .i64 n_7))]) [(8, 1)] [Ob.cells l_8 []]) = interp (rk Tryz.prog pol) ( brB (decide (n_7 ≥ 0)) (Tr.call (Task.call 109 [V.d (D.l b_5 l_6), V.d (D.l b_5 l_6)] []) fun o_0 => ift o_0.snd.isEmpty (asD o_0.fst fun d_1 => asL d_1 fun b_2_1 l_3_1 => Tr.call (Task.call 153 [V.d (D.l b_0 l_1), V.d (D.i .i64 n_7)] []) fun o_4 => ift o_4.snd.isEmpty (asD o_4.fst fun d_5 => asI .u64 d_5 fun n_6 => Tr.call (Task.call 101 [V.d (D.i .u64 n_6)] []) fun o_7 => ift o_7.snd.isEmpty (asD o_7.fst fun d_8 => asL d_8 fun b_9 l_10 => Tr.call (Task.call 109 [V.d (D.l b_2_1 l_3_1), V.d (D.l b_9 l_10)] []) fun o_11 => ift o_11.snd.isEmpty (asD o_11.fst fun d_12 => asL d_12 fun b_13 l_14 => Tr.call (Task.call 154 [V.d (D.l b_13 l_14), V.d (D.l b_2 l_3)] []) fun o_15 => ift o_15.snd.isEmpty (unT o_15.fst fun l_16 => ift (l_16.length == 2) (asD (l_16.getD 0 (V.d (D.b false))) fun d_17 => asL d_17 fun b_18 l_19 => asD (l_16.getD 1 (V.d (D.b false))) fun d_20 => asB d_20 fun b_21 => brB b_21 (ift (decide (0 ≤ IntKind.i64.wrap (n_7.tdiv 32) ∧ IntKind.i64.wrap (n_7.tdiv 32) < (↑m_4 : Int))) (ob l_8[0 + (IntKind.i64.wrap (n_7.tdiv 32)).toNat]? fun v_22 => asD v_22 fun d_23 => asI .u32 d_23 fun n_24 => ift (decide (0 ≤ n_7.tmod 32)) (ift (decide (0 ≤ IntKind.i64.wrap (n_7.tdiv 32) ∧ IntKind.i64.wrap (n_7.tdiv 32) < (↑m_4 : Int))) (ift (decide (0 + (IntKind.i64.wrap (n_7.tdiv 32)).toNat < l_8.length) && true) (Tr.call (Task.at_ 107 0 [true, true, false, false, true, false, true, true, true, true] (sv 60 [(0, V.d (D.l b_0 l_1)), (1, V.d (D.l b_2 l_3)), (7, V.m 0 0 m_4), (8, V.d (D.l b_18 l_19)), (9, V.d (D.i .i64 n_7))]) [] [Ob.cells (l_8.set (0 + (IntKind.i64.wrap (n_7.tdiv 32)).toNat) (V.d (D.i .u32 (IntKind.u32.wrap (↑(BitVec.ofInt IntKind.u32.bits n_24 ||| BitVec.ofInt IntKind.u32.bits (IntKind.u32.wrap (1 * 2 ^ min (n_7.tmod 32).toNat 32))).toNat : Int))))) []]) Tr.ret))))) (Tr.call (Task.at_ 107 0 [true, true, false, false, true, false, true, true, true, true] (sv 60 [(0, V.d (D.l b_0 l_1)), (1, V.d (D.l b_2 l_3)), (7, V.m 0 0 m_4), (8, V.d (D.l b_13 l_14)), (9, V.d (D.i .i64 n_7))]) [] [Ob.cells l_8 []]) Tr.ret)))))))) (Tr.call (Task.call 152 [V.m 0 0 m_4] [Ob.cells l_8 []]) fun o_25 => unCons o_25.snd fun x_26 l_27 => unCells x_26 fun l_28 l_29 => ift (l_28.length == l_8.length) (ift (l_29 == []) (unNil l_27 (asD o_25.fst fun d_30 => asL d_30 fun b_31 l_32 => Tr.ret (V.t [V.d (D.l b_31 l_32), V.d (D.l b_5 l_6), V.d (D.b true)], [])))))) :=
 rk_of (by kernel_rfl)
theorem f60_at7 (n_0 : Int) (n_1 : Int) : rk Tryz.prog pol (Task.at_ 215 0 [true, true] (sv 24 [(0, V.d (D.i .u64 n_0)), (1, V.d (D.i .i64 n_1))]) [] []) = interp (rk Tryz.prog pol) ( brB (decide (n_0 < 4503599627370496)) (Tr.ret (V.t [V.d (D.i .u64 n_0), V.d (D.b true)], [])) (brB (decide (n_1 > 971)) (Tr.ret (V.t [V.d (D.i .u64 0), V.d (D.b false)], [])) (Tr.ret (V.t [V.d (D.i .u64 (IntKind.u64.wrap (↑(BitVec.ofInt IntKind.u64.bits (IntKind.u64.wrap (IntKind.u64.wrap (IntKind.i64.wrap (n_1 + 1075)) * 4503599627370496)) ||| BitVec.ofInt IntKind.u64.bits (IntKind.u64.wrap (n_0 - 4503599627370496))).toNat : Int))), V.d (D.b true)], [])))) :=
 rk_of (by kernel_rfl)
theorem f32_at23 (b_0 : Bool) (l_1 : List D) (b_2 : Bool) (l_3 : List D) (n_4 : Int) : rk Tryz.prog pol (Task.at_ 189 0 [false, true, true, true] (sv 69 [(0, V.d (D.l b_0 l_1)), (1, V.d (D.l b_2 l_3)), (6, V.d (D.i .i64 n_4))]) [] []) = interp (rk Tryz.prog pol) ( Tr.call (Task.call 102 [V.d (D.l b_0 l_1), V.d (D.i .i64 (if 0 > IntKind.i64.wrap (0 - n_4) then 0 else IntKind.i64.wrap (0 - n_4)))] []) fun o_0 => ift o_0.snd.isEmpty (asD o_0.fst fun d_1 => asL d_1 fun b_2_1 l_3_1 => Tr.call (Task.call 102 [V.d (D.l b_2 l_3), V.d (D.i .i64 (if 0 > n_4 then 0 else n_4))] []) fun o_4 => ift o_4.snd.isEmpty (asD o_4.fst fun d_5 => asL d_5 fun b_6 l_7 => Tr.call (Task.call 107 [V.d (D.l b_2_1 l_3_1), V.d (D.l b_6 l_7)] []) fun o_8 => ift o_8.snd.isEmpty (unT o_8.fst fun l_9 => ift (l_9.length == 3) (asD (l_9.getD 0 (V.d (D.b false))) fun d_10 => asL d_10 fun b_11 l_12 => asD (l_9.getD 1 (V.d (D.b false))) fun d_13 => asL d_13 fun b_14 l_15 => asD (l_9.getD 2 (V.d (D.b false))) fun d_16 => asB d_16 fun b_17 => Tr.call (Task.call 103 [V.d (D.l b_11 l_12)] []) fun o_18 => ift o_18.snd.isEmpty (asD o_18.fst fun d_19 => asI .i64 d_19 fun n_20 => brB (decide (n_20 > 53)) (Tr.call (Task.at_ 189 0 [false, true, true, true] (sv 69 [(0, V.d (D.l b_0 l_1)), (1, V.d (D.l b_2 l_3)), (6, V.d (D.i .i64 (IntKind.i64.wrap (n_4 + 1))))]) [] []) Tr.ret) (Tr.call (Task.call 109 [V.d (D.l b_14 l_15), V.d (D.l b_14 l_15)] []) fun o_21 => ift o_21.snd.isEmpty (asD o_21.fst fun d_22 => asL d_22 fun b_23 l_24 => Tr.call (Task.call 108 [V.d (D.l b_23 l_24), V.d (D.l b_6 l_7)] []) fun o_25 => ift o_25.snd.isEmpty (asD o_25.fst fun d_26 => asI .i64 d_26 fun n_27 => brB (decide (n_27 > 0)) (Tr.call (Task.at_ 189 0 [true, false, true, true, true, true, false, false, false, true, true, true] (sv 69 [(6, V.d (D.i .i64 n_4)), (9, V.d (D.l b_11 l_12)), (59, V.d (D.b true))]) [] []) Tr.ret) (brB (n_27 == 0) (Tr.call (Task.call 153 [V.d (D.l b_11 l_12), V.d (D.i .i64 0)] []) fun o_28 => ift o_28.snd.isEmpty (asD o_28.fst fun d_29 => asI .u64 d_29 fun n_30 => Tr.call (Task.at_ 189 0 [true, false, true, true, true, true, false, false, false, true, true, true] (sv 69 [(6, V.d (D.i .i64 n_4)), (9, V.d (D.l b_11 l_12)), (59, V.d (D.b (n_30 == 1)))]) [] []) Tr.ret)) (Tr.call (Task.at_ 189 0 [true, false, true, true, true, true, false, false, false, true, true, true] (sv 69 [(6, V.d (D.i .i64 n_4)), (9, V.d (D.l b_11 l_12)), (59, V.d (D.b false))]) [] []) Tr.ret))))))))))) :=
 rk_of (by kernel_rfl)
theorem f27_at27 (l_0 : List UInt8) (b_1 : Bool) : rk Tryz.prog pol (Task.at_ 188 0 [true, false, true, true] (sv 75 [(0, V.d (D.s l_0)), (18, V.d (D.b b_1))]) [] []) = interp (rk Tryz.prog pol) ( brB b_1 (Tr.ret (V.t [V.d (D.i .i64 0), V.d (D.b false), V.d (D.i .i64 2)], [])) (ift (decide ((0 : Int) ≤ 1 ∧ 1 ≤ (↑l_0.length : Int))) (brB (decide ((↑(List.take (l_0.length - 1) (List.drop 1 l_0)).length : Int) > 0)) (ob (getI (List.take (l_0.length - 1) (List.drop 1 l_0)) 0) fun c_0 => brB ((↑c_0.toNat : Int) == 43) (Tr.call (Task.at_ 188 0 [true, false, true, true, true, true, true] (sv 75 [(0, V.d (D.s (List.take (l_0.length - 1) (List.drop 1 l_0)))), (5, V.d (D.b false)), (33, V.d (D.b true))]) [] []) Tr.ret) (ob (getI (List.take (l_0.length - 1) (List.drop 1 l_0)) 0) fun c_1 => Tr.call (Task.at_ 188 0 [true, false, true, true, true, true, true] (sv 75 [(0, V.d (D.s (List.take (l_0.length - 1) (List.drop 1 l_0)))), (5, V.d (D.b false)), (33, V.d (D.b ((↑c_1.toNat : Int) == 45)))]) [] []) Tr.ret)) (Tr.call (Task.at_ 188 0 [true, false, true, true, true, true, true] (sv 75 [(0, V.d (D.s (List.take (l_0.length - 1) (List.drop 1 l_0)))), (5, V.d (D.b false)), (33, V.d (D.b false))]) [] []) Tr.ret)))) :=
 rk_of (by kernel_rfl)
theorem f14_at27 (l_0 : List UInt8) (n_1 : Int) (b_2 : Bool) : rk Tryz.prog pol (Task.at_ 150 0 [true, false, true, true] (sv 133 [(0, V.d (D.s l_0)), (4, V.d (D.i .u64 n_1)), (28, V.d (D.b b_2))]) [] []) = interp (rk Tryz.prog pol) ( brB b_2 (ob (getI l_0 0) fun c_0 => brB ((↑c_0.toNat : Int) == 45) (Tr.call (Task.at_ 150 0 [true, false, true, false, true, true] (sv 133 [(0, V.d (D.s l_0)), (4, V.d (D.i .u64 9223372036854775808))]) [] []) Tr.ret) (Tr.call (Task.at_ 150 0 [true, false, true, false, true, true] (sv 133 [(0, V.d (D.s l_0)), (4, V.d (D.i .u64 n_1))]) [] []) Tr.ret)) (Tr.call (Task.at_ 150 0 [false, false, true, true, true, true, true] (sv 133 [(0, V.d (D.s l_0)), (4, V.d (D.i .u64 n_1)), (5, V.d (D.l true [])), (6, V.d (D.b false)), (7, V.d (D.i .i64 0))]) [(5, 1)] []) Tr.ret)) :=
 rk_of (by kernel_rfl)
theorem f58_at195 (b_0 : Bool) (l_1 : List D) (n_2 : Int) (b_3 : Bool) : rk Tryz.prog pol (Task.at_ 152 0 [true, false, false, false, false, true, true] (sv 23 [(0, V.d (D.l b_0 l_1)), (3, V.d (D.i .i64 n_2)), (15, V.d (D.b b_3))]) [] []) = interp (rk Tryz.prog pol) ( brB b_3 (Tr.call (Task.at_ 152 0 [false, false, true, true] (sv 23 [(0, V.d (D.l b_0 l_1)), (3, V.d (D.i .i64 (IntKind.i64.wrap (n_2 - 1))))]) [] []) Tr.ret) (ift (decide (0 ≤ n_2 ∧ n_2 ≤ (↑l_1.length : Int))) (ift (headOk 1 l_1) (ift (headOk 1 (List.take (n_2.toNat - 0) (List.drop 0 l_1))) (ift (decide (0 + (List.take (n_2.toNat - 0) (List.drop 0 l_1)).length ≤ 4294967296)) (Tr.ret (V.d (D.l (List.take (n_2.toNat - 0) (List.drop 0 l_1)).isEmpty ([] ++ List.take (n_2.toNat - 0) (List.drop 0 l_1))), []))))))) :=
 rk_of (by kernel_rfl)
theorem f58_at195_1 (m_0 : Nat) (n_1 : Int) (b_2 : Bool) (l_3 : List V) : rk Tryz.prog pol (Task.at_ 152 1 [true, false, false, false, false, true, true] (sv 23 [(0, V.m 0 0 m_0), (3, V.d (D.i .i64 n_1)), (15, V.d (D.b b_2))]) [] [Ob.cells l_3 []]) = interp (rk Tryz.prog pol) ( brB b_2 (Tr.call (Task.at_ 152 1 [false, false, true, true] (sv 23 [(0, V.m 0 0 m_0), (3, V.d (D.i .i64 (IntKind.i64.wrap (n_1 - 1))))]) [] [Ob.cells l_3 []]) Tr.ret) (ift (decide (0 ≤ n_1 ∧ n_1 ≤ (↑m_0 : Int))) (ob (o_tail [Ob.cells l_3 []] 1 (V.m 0 0 (n_1.toNat - 0))) fun l_0 => ift (headOk 1 l_0) (ift (decide (0 + l_0.length ≤ 4294967296)) (Tr.ret (V.d (D.l l_0.isEmpty ([] ++ l_0)), [Ob.cells l_3 []])))))) :=
 rk_of (by kernel_rfl)
theorem f29_at10827 (b_0 : Bool) (l_1 : List D) (b_2 : Bool) (l_3 : List D) (m_4 : Nat) (n_5 : Int) (n_6 : Int) (n_7 : Int) (l_8 : List V) : rk Tryz.prog pol (Task.at_ 105 0 [false, true, false, true, false, false, true, false, false, true, false, true, true] (sv 68 [(0, V.d (D.l b_0 l_1)), (1, V.d (D.l b_2 l_3)), (5, V.m 0 0 m_4), (6, V.d (D.i .i64 n_5)), (7, V.d (D.i .u64 n_6)), (8, V.d (D.i .i64 n_7))]) [] [Ob.cells l_8 []]) = interp (rk Tryz.prog pol) ( brB (decide (n_7 < (↑l_3.length : Int))) (ift (decide (0 ≤ IntKind.i64.wrap (n_5 + n_7) ∧ IntKind.i64.wrap (n_5 + n_7) < (↑m_4 : Int))) (ob l_8[0 + (IntKind.i64.wrap (n_5 + n_7)).toNat]? fun v_0 => asD v_0 fun d_1 => asI .u32 d_1 fun n_2 => ob (getI l_1 n_5) fun d_3 => ift (d_3.width == 1) (ob l_1[n_5.toNat]? fun d_4 => ob d_4.cells[0]? fun d_5 => asI .u32 d_5 fun n_6_1 => ob (getI l_3 n_7) fun d_7 => ift (d_7.width == 1) (ob l_3[n_7.toNat]? fun d_8 => ob d_8.cells[0]? fun d_9 => asI .u32 d_9 fun n_10 => ift (decide (0 ≤ IntKind.i64.wrap (n_5 + n_7) ∧ IntKind.i64.wrap (n_5 + n_7) < (↑m_4 : Int))) (ift (decide (0 + (IntKind.i64.wrap (n_5 + n_7)).toNat < l_8.length) && true) (Tr.call (Task.at_ 105 0 [false, true, false, true, false, false, true, false, false, true, false, true, true] (sv 68 [(0, V.d (D.l b_0 l_1)), (1, V.d (D.l b_2 l_3)), (5, V.m 0 0 m_4), (6, V.d (D.i .i64 n_5)), (7, V.d (D.i .u64 ((IntKind.u64.wrap (IntKind.u64.wrap (n_6 + IntKind.u64.wrap n_2) + IntKind.u64.wrap (IntKind.u64.wrap n_6_1 * IntKind.u64.wrap n_10))).fdiv 4294967296))), (8, V.d (D.i .i64 (IntKind.i64.wrap (n_7 + 1))))]) [] [Ob.cells (l_8.set (0 + (IntKind.i64.wrap (n_5 + n_7)).toNat) (V.d (D.i .u32 (IntKind.u32.wrap (IntKind.u64.wrap (IntKind.u64.wrap (n_6 + IntKind.u64.wrap n_2) + IntKind.u64.wrap (IntKind.u64.wrap n_6_1 * IntKind.u64.wrap n_10))))))) []]) Tr.ret)))))) (ift (decide (0 ≤ IntKind.i64.wrap (n_5 + (↑l_3.length : Int)) ∧ IntKind.i64.wrap (n_5 + (↑l_3.length : Int)) < (↑m_4 : Int))) (ift (decide (0 + (IntKind.i64.wrap (n_5 + (↑l_3.length : Int))).toNat < l_8.length) && true) (Tr.call (Task.at_ 105 0 [false, true, false, true, true] (sv 68 [(0, V.d (D.l b_0 l_1)), (1, V.d (D.l b_2 l_3)), (5, V.m 0 0 m_4), (6, V.d (D.i .i64 (IntKind.i64.wrap (n_5 + 1))))]) [] [Ob.cells (l_8.set (0 + (IntKind.i64.wrap (n_5 + (↑l_3.length : Int))).toNat) (V.d (D.i .u32 (IntKind.u32.wrap n_6)))) []]) Tr.ret)))) :=
 rk_of (by kernel_rfl)
theorem f28_at791 (b_0 : Bool) (l_1 : List D) (b_2 : Bool) (l_3 : List D) (b_4 : Bool) (l_5 : List D) (n_6 : Int) (n_7 : Int) (b_8 : Bool) : rk Tryz.prog pol (Task.at_ 109 0 [true, false, false, false, true, false, true, true, true] (sv 42 [(0, V.d (D.l b_0 l_1)), (1, V.d (D.l b_2 l_3)), (5, V.d (D.l b_4 l_5)), (6, V.d (D.i .u64 n_6)), (7, V.d (D.i .i64 n_7)), (21, V.d (D.b b_8))]) [(5, 1)] []) = interp (rk Tryz.prog pol) ( brB b_8 (Tr.call (Task.call 155 [V.d (D.l b_0 l_1), V.d (D.i .i64 n_7)] []) fun o_0 => ift o_0.snd.isEmpty (asD o_0.fst fun d_1 => asI .u64 d_1 fun n_2 => Tr.call (Task.call 155 [V.d (D.l b_2 l_3), V.d (D.i .i64 n_7)] []) fun o_3 => ift o_3.snd.isEmpty (asD o_3.fst fun d_4 => asI .u64 d_4 fun n_5 => ift (headOk 1 l_5) (ift (b_4 || true) (ift (decide (l_5.length + 1 ≤ 4294967296)) (Tr.call (Task.at_ 109 0 [false, true, false, true, true, true] (sv 42 [(0, V.d (D.l b_0 l_1)), (1, V.d (D.l b_2 l_3)), (5, V.d (D.l (b_4 && false) (l_5 ++ [D.i .u32 (IntKind.u32.wrap (IntKind.u64.wrap (IntKind.u64.wrap (n_6 + n_2) + n_5)))]))), (6, V.d (D.i .u64 ((IntKind.u64.wrap (IntKind.u64.wrap (n_6 + n_2) + n_5)).fdiv 4294967296))), (7, V.d (D.i .i64 (IntKind.i64.wrap (n_7 + 1))))]) [(5, 1)] []) Tr.ret)))))) (Tr.call (Task.call 152 [V.d (D.l b_4 l_5)] []) fun o_6 => ift o_6.snd.isEmpty (asD o_6.fst fun d_7 => asL d_7 fun b_8 l_9 => Tr.ret (V.d (D.l b_8 l_9), [])))) :=
 rk_of (by kernel_rfl)
theorem f41_at391 (b_0 : Bool) (l_1 : List D) (n_2 : Int) (b_3 : Bool) : rk Tryz.prog pol (Task.at_ 103 0 [true, false, false, false, false, true, true, true] (sv 22 [(3, V.d (D.l b_0 l_1)), (4, V.d (D.i .i64 n_2)), (18, V.d (D.b b_3))]) [] []) = interp (rk Tryz.prog pol) ( brB b_3 (Tr.call (Task.at_ 103 0 [false, false, true, true, true] (sv 22 [(3, V.d (D.l b_0 l_1)), (4, V.d (D.i .i64 (IntKind.i64.wrap (n_2 - 1))))]) [] []) Tr.ret) (Tr.ret (V.d (D.i .i64 n_2), []))) :=
 rk_of (by kernel_rfl)
theorem f40_at1611 (b_0 : Bool) (l_1 : List D) (n_2 : Int) (m_3 : Nat) (n_4 : Int) (b_5 : Bool) (l_6 : List V) : rk Tryz.prog pol (Task.at_ 102 0 [true, false, false, true, false, false, true, false, true, true] (sv 53 [(0, V.d (D.l b_0 l_1)), (1, V.d (D.i .i64 n_2)), (5, V.m 0 0 m_3), (6, V.d (D.i .i64 n_4)), (31, V.d (D.b b_5))]) [] [Ob.cells l_6 []]) = interp (rk Tryz.prog pol) ( brB b_5 (ift (decide (0 ≤ IntKind.i64.wrap ((IntKind.i64.wrap (n_4 + n_2)).tdiv 32) ∧ IntKind.i64.wrap ((IntKind.i64.wrap (n_4 + n_2)).tdiv 32) < (↑m_3 : Int))) (ob l_6[0 + (IntKind.i64.wrap ((IntKind.i64.wrap (n_4 + n_2)).tdiv 32)).toNat]? fun v_0 => asD v_0 fun d_1 => asI .u32 d_1 fun n_2_1 => ift (decide (0 ≤ (IntKind.i64.wrap (n_4 + n_2)).tmod 32)) (ift (decide (0 ≤ IntKind.i64.wrap ((IntKind.i64.wrap (n_4 + n_2)).tdiv 32) ∧ IntKind.i64.wrap ((IntKind.i64.wrap (n_4 + n_2)).tdiv 32) < (↑m_3 : Int))) (ift (decide (0 + (IntKind.i64.wrap ((IntKind.i64.wrap (n_4 + n_2)).tdiv 32)).toNat < l_6.length) && true) (Tr.call (Task.at_ 102 0 [false, true, false, true, true] (sv 53 [(0, V.d (D.l b_0 l_1)), (1, V.d (D.i .i64 n_2)), (5, V.m 0 0 m_3), (6, V.d (D.i .i64 (IntKind.i64.wrap (n_4 + 1))))]) [] [Ob.cells (l_6.set (0 + (IntKind.i64.wrap ((IntKind.i64.wrap (n_4 + n_2)).tdiv 32)).toNat) (V.d (D.i .u32 (IntKind.u32.wrap (↑(BitVec.ofInt IntKind.u32.bits n_2_1 ||| BitVec.ofInt IntKind.u32.bits (IntKind.u32.wrap (1 * 2 ^ min ((IntKind.i64.wrap (n_4 + n_2)).tmod 32).toNat 32))).toNat : Int))))) []]) Tr.ret))))) (Tr.call (Task.at_ 102 0 [false, true, false, true, true] (sv 53 [(0, V.d (D.l b_0 l_1)), (1, V.d (D.i .i64 n_2)), (5, V.m 0 0 m_3), (6, V.d (D.i .i64 (IntKind.i64.wrap (n_4 + 1))))]) [] [Ob.cells l_6 []]) Tr.ret)) :=
 rk_of (by kernel_rfl)
theorem f43_at1839 (b_0 : Bool) (l_1 : List D) (b_2 : Bool) (l_3 : List D) (m_4 : Nat) (b_5 : Bool) (l_6 : List D) (n_7 : Int) (l_8 : List V) : rk Tryz.prog pol (Task.at_ 107 0 [true, true, false, false, true, false, true, true, true, true] (sv 60 [(0, V.d (D.l b_0 l_1)), (1, V.d (D.l b_2 l_3)), (7, V.m 0 0 m_4), (8, V.d (D.l b_5 l_6)), (9, V.d (D.i .i64 n_7))]) [] [Ob.cells l_8 []]) = interp (rk Tryz.prog pol) ( Tr.call (Task.at_ 107 0 [false, true, false, true, true, true, true] (sv 60 [(0, V.d (D.l b_0 l_1)), (1, V.d (D.l b_2 l_3)), (7, V.m 0 0 m_4), (8, V.d (D.l b_5 l_6)), (9, V.d (D.i .i64 (IntKind.i64.wrap (n_7 - 1))))]) [] [Ob.cells l_8 []]) Tr.ret) :=
 rk_of (by kernel_rfl)
theorem f32_at7111 (n_0 : Int) (b_1 : Bool) (l_2 : List D) (b_3 : Bool) : rk Tryz.prog pol (Task.at_ 189 0 [true, false, true, true, true, true, false, false, false, true, true, true] (sv 69 [(6, V.d (D.i .i64 n_0)), (9, V.d (D.l b_1 l_2)), (59, V.d (D.b b_3))]) [] []) = interp (rk Tryz.prog pol) ( brB b_3 (Tr.call (Task.call 101 [V.d (D.i .u64 1)] []) fun o_0 => ift o_0.snd.isEmpty (asD o_0.fst fun d_1 => asL d_1 fun b_2 l_3 => Tr.call (Task.call 109 [V.d (D.l b_1 l_2), V.d (D.l b_2 l_3)] []) fun o_4 => ift o_4.snd.isEmpty (asD o_4.fst fun d_5 => asL d_5 fun b_6 l_7 => Tr.call (Task.call 110 [V.d (D.l b_6 l_7)] []) fun o_8 => ift o_8.snd.isEmpty (asD o_8.fst fun d_9 => asI .u64 d_9 fun n_10 => Tr.call (Task.call 215 [V.d (D.i .u64 n_10), V.d (D.i .i64 n_0)] []) fun o_11 => ift o_11.snd.isEmpty (unT o_11.fst fun l_12 => ift (l_12.length == 2) (asD (l_12.getD 0 (V.d (D.b false))) fun d_13 => asI .u64 d_13 fun n_14 => asD (l_12.getD 1 (V.d (D.b false))) fun d_15 => asB d_15 fun b_16 => Tr.ret (V.t [V.d (D.i .u64 n_14), V.d (D.b b_16)], []))))))) (Tr.call (Task.call 110 [V.d (D.l b_1 l_2)] []) fun o_17 => ift o_17.snd.isEmpty (asD o_17.fst fun d_18 => asI .u64 d_18 fun n_19 => Tr.call (Task.call 215 [V.d (D.i .u64 n_19), V.d (D.i .i64 n_0)] []) fun o_20 => ift o_20.snd.isEmpty (unT o_20.fst fun l_21 => ift (l_21.length == 2) (asD (l_21.getD 0 (V.d (D.b false))) fun d_22 => asI .u64 d_22 fun n_23 => asD (l_21.getD 1 (V.d (D.b false))) fun d_24 => asB d_24 fun b_25 => Tr.ret (V.t [V.d (D.i .u64 n_23), V.d (D.b b_25)], [])))))) :=
 rk_of (by kernel_rfl)
theorem f27_at223 (l_0 : List UInt8) (b_1 : Bool) (b_2 : Bool) : rk Tryz.prog pol (Task.at_ 188 0 [true, false, true, true, true, true, true] (sv 75 [(0, V.d (D.s l_0)), (5, V.d (D.b b_1)), (33, V.d (D.b b_2))]) [] []) = interp (rk Tryz.prog pol) ( brB b_2 (ob (getI l_0 0) fun c_0 => ift (decide ((0 : Int) ≤ 1 ∧ 1 ≤ (↑l_0.length : Int))) (brB ((↑(List.take (l_0.length - 1) (List.drop 1 l_0)).length : Int) == 0) (Tr.ret (V.t [V.d (D.i .i64 0), V.d (D.b false), V.d (D.i .i64 2)], [])) (Tr.call (Task.at_ 188 0 [false, true, false, true, true, true, true, true, true, true, true] (sv 75 [(0, V.d (D.s (List.take (l_0.length - 1) (List.drop 1 l_0)))), (5, V.d (D.b ((↑c_0.toNat : Int) == 45))), (6, V.d (D.i .i64 0)), (7, V.d (D.i .i64 0))]) [] []) Tr.ret))) (brB ((↑l_0.length : Int) == 0) (Tr.ret (V.t [V.d (D.i .i64 0), V.d (D.b false), V.d (D.i .i64 2)], [])) (Tr.call (Task.at_ 188 0 [false, true, false, true, true, true, true, true, true, true, true] (sv 75 [(0, V.d (D.s l_0)), (5, V.d (D.b b_1)), (6, V.d (D.i .i64 0)), (7, V.d (D.i .i64 0))]) [] []) Tr.ret))) :=
 rk_of (by kernel_rfl)
theorem f14_at107 (l_0 : List UInt8) (n_1 : Int) : rk Tryz.prog pol (Task.at_ 150 0 [true, false, true, false, true, true] (sv 133 [(0, V.d (D.s l_0)), (4, V.d (D.i .u64 n_1))]) [] []) = interp (rk Tryz.prog pol) ( ift (decide ((0 : Int) ≤ 1 ∧ 1 ≤ (↑l_0.length : Int))) (Tr.call (Task.at_ 150 0 [false, false, true, true, true, true, true] (sv 133 [(0, V.d (D.s (List.take (l_0.length - 1) (List.drop 1 l_0)))), (4, V.d (D.i .u64 n_1)), (5, V.d (D.l true [])), (6, V.d (D.b false)), (7, V.d (D.i .i64 0))]) [(5, 1)] []) Tr.ret)) :=
 rk_of (by kernel_rfl)
theorem f14_at159 (l_0 : List UInt8) (n_1 : Int) (b_2 : Bool) (l_3 : List D) (b_4 : Bool) (n_5 : Int) : rk Tryz.prog pol (Task.at_ 150 0 [false, false, true, true, true, true, true] (sv 133 [(0, V.d (D.s l_0)), (4, V.d (D.i .u64 n_1)), (5, V.d (D.l b_2 l_3)), (6, V.d (D.b b_4)), (7, V.d (D.i .i64 n_5))]) [(5, 1)] []) = interp (rk Tryz.prog pol) ( brB (decide ((↑l_0.length : Int) > 0)) (ob (getI l_0 0) fun c_0 => brB (decide ((↑c_0.toNat : Int) ≥ 48)) (ob (getI l_0 0) fun c_1 => brB (decide ((↑c_1.toNat : Int) ≤ 57)) (Tr.call (Task.at_ 150 0 [true, false, false, false, false, true, true, true, true, true] (sv 133 [(0, V.d (D.s l_0)), (4, V.d (D.i .u64 n_1)), (5, V.d (D.l b_2 l_3)), (6, V.d (D.b b_4)), (7, V.d (D.i .i64 n_5)), (55, V.d (D.b true))]) [(5, 1)] []) Tr.ret) (ob (getI l_0 0) fun c_2 => brB ((↑c_2.toNat : Int) == 46) (Tr.call (Task.at_ 150 0 [true, false, false, false, false, true, true, true, true, true] (sv 133 [(0, V.d (D.s l_0)), (4, V.d (D.i .u64 n_1)), (5, V.d (D.l b_2 l_3)), (6, V.d (D.b b_4)), (7, V.d (D.i .i64 n_5)), (55, V.d (D.b !b_4))]) [(5, 1)] []) Tr.ret) (Tr.call (Task.at_ 150 0 [true, false, false, false, false, true, true, true, true, true] (sv 133 [(0, V.d (D.s l_0)), (4, V.d (D.i .u64 n_1)), (5, V.d (D.l b_2 l_3)), (6, V.d (D.b b_4)), (7, V.d (D.i .i64 n_5)), (55, V.d (D.b false))]) [(5, 1)] []) Tr.ret))) (ob (getI l_0 0) fun c_3 => brB ((↑c_3.toNat : Int) == 46) (Tr.call (Task.at_ 150 0 [true, false, false, false, false, true, true, true, true, true] (sv 133 [(0, V.d (D.s l_0)), (4, V.d (D.i .u64 n_1)), (5, V.d (D.l b_2 l_3)), (6, V.d (D.b b_4)), (7, V.d (D.i .i64 n_5)), (55, V.d (D.b !b_4))]) [(5, 1)] []) Tr.ret) (Tr.call (Task.at_ 150 0 [true, false, false, false, false, true, true, true, true, true] (sv 133 [(0, V.d (D.s l_0)), (4, V.d (D.i .u64 n_1)), (5, V.d (D.l b_2 l_3)), (6, V.d (D.b b_4)), (7, V.d (D.i .i64 n_5)), (55, V.d (D.b false))]) [(5, 1)] []) Tr.ret))) (Tr.call (Task.at_ 150 0 [true, false, false, false, false, true, true, true, true, true] (sv 133 [(0, V.d (D.s l_0)), (4, V.d (D.i .u64 n_1)), (5, V.d (D.l b_2 l_3)), (6, V.d (D.b b_4)), (7, V.d (D.i .i64 n_5)), (55, V.d (D.b false))]) [(5, 1)] []) Tr.ret)) :=
 rk_of (by kernel_rfl)
theorem f43_at175_1 (b_0 : Bool) (l_1 : List D) (b_2 : Bool) (l_3 : List D) (m_4 : Nat) (b_5 : Bool) (l_6 : List D) (n_7 : Int) (l_8 : List V) : rk Tryz.prog pol (Task.at_ 107 0 [false, true, false, true, true, true, true] (sv 60 [(0, V.d (D.l b_0 l_1)), (1, V.d (D.l b_2 l_3)), (7, V.m 0 0 m_4), (8, V.d (D.l b_5 l_6)), (9, V.d (D.i .i64 n_7))]) [] [Ob.cells l_8 []]) = interp (rk Tryz.prog pol) ( brB (decide (n_7 ≥ 0)) (Tr.call (Task.call 109 [V.d (D.l b_5 l_6), V.d (D.l b_5 l_6)] []) fun o_0 => ift o_0.snd.isEmpty (asD o_0.fst fun d_1 => asL d_1 fun b_2_1 l_3_1 => Tr.call (Task.call 153 [V.d (D.l b_0 l_1), V.d (D.i .i64 n_7)] []) fun o_4 => ift o_4.snd.isEmpty (asD o_4.fst fun d_5 => asI .u64 d_5 fun n_6 => Tr.call (Task.call 101 [V.d (D.i .u64 n_6)] []) fun o_7 => ift o_7.snd.isEmpty (asD o_7.fst fun d_8 => asL d_8 fun b_9 l_10 => Tr.call (Task.call 109 [V.d (D.l b_2_1 l_3_1), V.d (D.l b_9 l_10)] []) fun o_11 => ift o_11.snd.isEmpty (asD o_11.fst fun d_12 => asL d_12 fun b_13 l_14 => Tr.call (Task.call 154 [V.d (D.l b_13 l_14), V.d (D.l b_2 l_3)] []) fun o_15 => ift o_15.snd.isEmpty (unT o_15.fst fun l_16 => ift (l_16.length == 2) (asD (l_16.getD 0 (V.d (D.b false))) fun d_17 => asL d_17 fun b_18 l_19 => asD (l_16.getD 1 (V.d (D.b false))) fun d_20 => asB d_20 fun b_21 => brB b_21 (ift (decide (0 ≤ IntKind.i64.wrap (n_7.tdiv 32) ∧ IntKind.i64.wrap (n_7.tdiv 32) < (↑m_4 : Int))) (ob l_8[0 + (IntKind.i64.wrap (n_7.tdiv 32)).toNat]? fun v_22 => asD v_22 fun d_23 => asI .u32 d_23 fun n_24 => ift (decide (0 ≤ n_7.tmod 32)) (ift (decide (0 ≤ IntKind.i64.wrap (n_7.tdiv 32) ∧ IntKind.i64.wrap (n_7.tdiv 32) < (↑m_4 : Int))) (ift (decide (0 + (IntKind.i64.wrap (n_7.tdiv 32)).toNat < l_8.length) && true) (Tr.call (Task.at_ 107 0 [true, true, false, false, true, false, true, true, true, true] (sv 60 [(0, V.d (D.l b_0 l_1)), (1, V.d (D.l b_2 l_3)), (7, V.m 0 0 m_4), (8, V.d (D.l b_18 l_19)), (9, V.d (D.i .i64 n_7))]) [] [Ob.cells (l_8.set (0 + (IntKind.i64.wrap (n_7.tdiv 32)).toNat) (V.d (D.i .u32 (IntKind.u32.wrap (↑(BitVec.ofInt IntKind.u32.bits n_24 ||| BitVec.ofInt IntKind.u32.bits (IntKind.u32.wrap (1 * 2 ^ min (n_7.tmod 32).toNat 32))).toNat : Int))))) []]) Tr.ret))))) (Tr.call (Task.at_ 107 0 [true, true, false, false, true, false, true, true, true, true] (sv 60 [(0, V.d (D.l b_0 l_1)), (1, V.d (D.l b_2 l_3)), (7, V.m 0 0 m_4), (8, V.d (D.l b_13 l_14)), (9, V.d (D.i .i64 n_7))]) [] [Ob.cells l_8 []]) Tr.ret)))))))) (Tr.call (Task.call 152 [V.m 0 0 m_4] [Ob.cells l_8 []]) fun o_25 => unCons o_25.snd fun x_26 l_27 => unCells x_26 fun l_28 l_29 => ift (l_28.length == l_8.length) (ift (l_29 == []) (unNil l_27 (asD o_25.fst fun d_30 => asL d_30 fun b_31 l_32 => Tr.ret (V.t [V.d (D.l b_31 l_32), V.d (D.l b_5 l_6), V.d (D.b true)], [])))))) :=
 rk_of (by kernel_rfl)
theorem f27_at2815 (l_0 : List UInt8) (b_1 : Bool) (n_2 : Int) (n_3 : Int) : rk Tryz.prog pol (Task.at_ 188 0 [false, true, false, true, true, true, true, true, true, true, true] (sv 75 [(0, V.d (D.s l_0)), (5, V.d (D.b b_1)), (6, V.d (D.i .i64 n_2)), (7, V.d (D.i .i64 n_3))]) [] []) = interp (rk Tryz.prog pol) ( brB (decide (n_3 < (↑l_0.length : Int))) (ob (getI l_0 n_3) fun c_0 => brB (decide ((↑c_0.toNat : Int) < 48)) (Tr.call (Task.at_ 188 0 [true, false, false, false, true, false, false, true, false, true, true, true, true, true, true, true, true] (sv 75 [(0, V.d (D.s l_0)), (5, V.d (D.b b_1)), (6, V.d (D.i .i64 n_2)), (7, V.d (D.i .i64 n_3)), (57, V.d (D.b true))]) [] []) Tr.ret) (ob (getI l_0 n_3) fun c_1 => Tr.call (Task.at_ 188 0 [true, false, false, false, true, false, false, true, false, true, true, true, true, true, true, true, true] (sv 75 [(0, V.d (D.s l_0)), (5, V.d (D.b b_1)), (6, V.d (D.i .i64 n_2)), (7, V.d (D.i .i64 n_3)), (57, V.d (D.b (decide ((↑c_1.toNat : Int) > 57))))]) [] []) Tr.ret)) (brB b_1 (Tr.ret (V.t [V.d (D.i .i64 (IntKind.i64.wrap (0 - n_2))), V.d (D.b (decide (n_2 > 400))), V.d (D.i .i64 0)], [])) (Tr.ret (V.t [V.d (D.i .i64 n_2), V.d (D.b (decide (n_2 > 400))), V.d (D.i .i64 0)], [])))) :=
 rk_of (by kernel_rfl)
theorem f14_at1567 (l_0 : List UInt8) (n_1 : Int) (b_2 : Bool) (l_3 : List D) (b_4 : Bool) (n_5 : Int) (b_6 : Bool) : rk Tryz.prog pol (Task.at_ 150 0 [true, false, false, false, false, true, true, true, true, true] (sv 133 [(0, V.d (D.s l_0)), (4, V.d (D.i .u64 n_1)), (5, V.d (D.l b_2 l_3)), (6, V.d (D.b b_4)), (7, V.d (D.i .i64 n_5)), (55, V.d (D.b b_6))]) [(5, 1)] []) = interp (rk Tryz.prog pol) ( brB b_6 (ob (getI l_0 0) fun c_0 => brB ((↑c_0.toNat : Int) == 46) (Tr.call (Task.at_ 150 0 [true, false, true, false, false, false, true, true, true, true, true] (sv 133 [(0, V.d (D.s l_0)), (4, V.d (D.i .u64 n_1)), (5, V.d (D.l b_2 l_3)), (6, V.d (D.b true)), (7, V.d (D.i .i64 n_5))]) [(5, 1)] []) Tr.ret) (ob (getI l_0 0) fun c_1 => ift (headOk 1 l_3) (ift (b_2 || true) (ift (decide (l_3.length + 1 ≤ 4294967296)) (brB b_4 (Tr.call (Task.at_ 150 0 [true, false, true, false, false, false, true, true, true, true, true] (sv 133 [(0, V.d (D.s l_0)), (4, V.d (D.i .u64 n_1)), (5, V.d (D.l (b_2 && false) (l_3 ++ [D.i .u8 (IntKind.u8.wrap ((↑c_1.toNat : Int) - 48))]))), (6, V.d (D.b b_4)), (7, V.d (D.i .i64 (IntKind.i64.wrap (n_5 + 1))))]) [(5, 1)] []) Tr.ret) (Tr.call (Task.at_ 150 0 [true, false, true, false, false, false, true, true, true, true, true] (sv 133 [(0, V.d (D.s l_0)), (4, V.d (D.i .u64 n_1)), (5, V.d (D.l (b_2 && false) (l_3 ++ [D.i .u8 (IntKind.u8.wrap ((↑c_1.toNat : Int) - 48))]))), (6, V.d (D.b b_4)), (7, V.d (D.i .i64 n_5))]) [(5, 1)] []) Tr.ret)))))) (brB ((↑l_3.length : Int) == 0) (Tr.call (Task.at_ 150 0 [true, false, true, true, true, true, true, true] (sv 133 [(0, V.d (D.s l_0)), (4, V.d (D.i .u64 n_1)), (5, V.d (D.l b_2 l_3)), (7, V.d (D.i .i64 n_5)), (79, V.d (D.b true))]) [(5, 1)] []) Tr.ret) (brB b_4 (Tr.call (Task.at_ 150 0 [true, false, true, true, true, true, true, true] (sv 133 [(0, V.d (D.s l_0)), (4, V.d (D.i .u64 n_1)), (5, V.d (D.l b_2 l_3)), (7, V.d (D.i .i64 n_5)), (79, V.d (D.b (n_5 == 0)))]) [(5, 1)] []) Tr.ret) (Tr.call (Task.at_ 150 0 [true, false, true, true, true, true, true, true] (sv 133 [(0, V.d (D.s l_0)), (4, V.d (D.i .u64 n_1)), (5, V.d (D.l b_2 l_3)), (7, V.d (D.i .i64 n_5)), (79, V.d (D.b false))]) [(5, 1)] []) Tr.ret)))) :=
 rk_of (by kernel_rfl)
theorem f27_at201471 (l_0 : List UInt8) (b_1 : Bool) (n_2 : Int) (n_3 : Int) (b_4 : Bool) : rk Tryz.prog pol (Task.at_ 188 0 [true, false, false, false, true, false, false, true, false, true, true, true, true, true, true, true, true] (sv 75 [(0, V.d (D.s l_0)), (5, V.d (D.b b_1)), (6, V.d (D.i .i64 n_2)), (7, V.d (D.i .i64 n_3)), (57, V.d (D.b b_4))]) [] []) = interp (rk Tryz.prog pol) ( brB b_4 (Tr.ret (V.t [V.d (D.i .i64 0), V.d (D.b false), V.d (D.i .i64 2)], [])) (ob (getI l_0 n_3) fun c_0 => Tr.call (Task.at_ 188 0 [false, true, false, true, true, true, true, true, true, true, true] (sv 75 [(0, V.d (D.s l_0)), (5, V.d (D.b b_1)), (6, V.d (D.i .i64 (if 100000 < IntKind.i64.wrap (IntKind.i64.wrap (n_2 * 10) + IntKind.i64.wrap (IntKind.u8.wrap ((↑c_0.toNat : Int) - 48))) then 100000 else IntKind.i64.wrap (IntKind.i64.wrap (n_2 * 10) + IntKind.i64.wrap (IntKind.u8.wrap ((↑c_0.toNat : Int) - 48)))))), (7, V.d (D.i .i64 (IntKind.i64.wrap (n_3 + 1))))]) [] []) Tr.ret)) :=
 rk_of (by kernel_rfl)
theorem f14_at3359 (l_0 : List UInt8) (n_1 : Int) (b_2 : Bool) (l_3 : List D) (b_4 : Bool) (n_5 : Int) : rk Tryz.prog pol (Task.at_ 150 0 [true, false, true, false, false, false, true, true, true, true, true] (sv 133 [(0, V.d (D.s l_0)), (4, V.d (D.i .u64 n_1)), (5, V.d (D.l b_2 l_3)), (6, V.d (D.b b_4)), (7, V.d (D.i .i64 n_5))]) [(5, 1)] []) = interp (rk Tryz.prog pol) ( ift (decide ((0 : Int) ≤ 1 ∧ 1 ≤ (↑l_0.length : Int))) (Tr.call (Task.at_ 150 0 [false, false, true, true, true, true, true] (sv 133 [(0, V.d (D.s (List.take (l_0.length - 1) (List.drop 1 l_0)))), (4, V.d (D.i .u64 n_1)), (5, V.d (D.l b_2 l_3)), (6, V.d (D.b b_4)), (7, V.d (D.i .i64 n_5))]) [(5, 1)] []) Tr.ret)) :=
 rk_of (by kernel_rfl)
theorem f14_at447 (l_0 : List UInt8) (n_1 : Int) (b_2 : Bool) (l_3 : List D) (n_4 : Int) (b_5 : Bool) : rk Tryz.prog pol (Task.at_ 150 0 [true, false, true, true, true, true, true, true] (sv 133 [(0, V.d (D.s l_0)), (4, V.d (D.i .u64 n_1)), (5, V.d (D.l b_2 l_3)), (7, V.d (D.i .i64 n_4)), (79, V.d (D.b b_5))]) [(5, 1)] []) = interp (rk Tryz.prog pol) ( brB b_5 (Tr.ret (V.t [V.d (D.i .u64 0), V.d (D.i .i64 2)], [])) (Tr.call (Task.call 188 [V.d (D.s l_0)] []) fun o_0 => ift o_0.snd.isEmpty (unT o_0.fst fun l_1 => ift (l_1.length == 3) (asD (l_1.getD 0 (V.d (D.b false))) fun d_2 => asI .i64 d_2 fun n_3 => asD (l_1.getD 1 (V.d (D.b false))) fun d_4 => asB d_4 fun b_5 => asD (l_1.getD 2 (V.d (D.b false))) fun d_6 => asI .i64 d_6 fun n_7 => brB (n_7 != 0) (Tr.ret (V.t [V.d (D.i .u64 0), V.d (D.i .i64 n_7)], [])) (brB (decide ((↑l_3.length : Int) > 60)) (Tr.ret (V.t [V.d (D.i .u64 0), V.d (D.i .i64 4)], [])) (brB b_5 (Tr.ret (V.t [V.d (D.i .u64 0), V.d (D.i .i64 5)], [])) (Tr.call (Task.at_ 150 0 [false, true, false, true, true, true, true, true, true, true, true, true, true, true, true] (sv 133 [(4, V.d (D.i .u64 n_1)), (5, V.d (D.l b_2 l_3)), (7, V.d (D.i .i64 n_4)), (8, V.d (D.i .i64 n_3)), (11, V.d (D.l true [])), (12, V.d (D.i .i64 0))]) [(11, 1), (5, 1)] []) Tr.ret))))))) :=
 rk_of (by kernel_rfl)
theorem f14_at45055 (n_0 : Int) (b_1 : Bool) (l_2 : List D) (n_3 : Int) (n_4 : Int) (b_5 : Bool) (l_6 : List D) (n_7 : Int) : rk Tryz.prog pol (Task.at_ 150 0 [false, true, false, true, true, true, true, true, true, true, true, true, true, true, true] (sv 133 [(4, V.d (D.i .u64 n_0)), (5, V.d (D.l b_1 l_2)), (7, V.d (D.i .i64 n_3)), (8, V.d (D.i .i64 n_4)), (11, V.d (D.l b_5 l_6)), (12, V.d (D.i .i64 n_7))]) [(11, 1), (5, 1)] []) = interp (rk Tryz.prog pol) ( brB (decide (n_7 < (↑l_2.length : Int))) (Tr.call (Task.call 105 [V.d (D.l b_5 l_6), V.d (D.l true [D.i .u32 10])] []) fun o_0 => ift o_0.snd.isEmpty (asD o_0.fst fun d_1 => asL d_1 fun b_2 l_3 => ob (getI l_2 n_7) fun d_4 => ift (d_4.width == 1) (ob l_2[n_7.toNat]? fun d_5 => ob d_5.cells[0]? fun d_6 => asI .u8 d_6 fun n_7_1 => Tr.call (Task.call 101 [V.d (D.i .u64 (IntKind.u64.wrap n_7_1))] []) fun o_8 => ift o_8.snd.isEmpty (asD o_8.fst fun d_9 => asL d_9 fun b_10 l_11 => Tr.call (Task.call 109 [V.d (D.l b_2 l_3), V.d (D.l b_10 l_11)] []) fun o_12 => ift o_12.snd.isEmpty (asD o_12.fst fun d_13 => asL d_13 fun b_14 l_15 => Tr.call (Task.at_ 150 0 [false, true, false, true, true, true, true, true, true, true, true, true, true, true, true] (sv 133 [(4, V.d (D.i .u64 n_0)), (5, V.d (D.l b_1 l_2)), (7, V.d (D.i .i64 n_3)), (8, V.d (D.i .i64 n_4)), (11, V.d (D.l b_14 l_15)), (12, V.d (D.i .i64 (IntKind.i64.wrap (n_7 + 1))))]) [(5, 1)] []) Tr.ret))))) (brB (decide (IntKind.i64.wrap (n_4 - n_3) ≥ 0)) (Tr.call (Task.call 106 [V.d (D.i .i64 (IntKind.i64.wrap (n_4 - n_3)))] []) fun o_16 => ift o_16.snd.isEmpty (asD o_16.fst fun d_17 => asL d_17 fun b_18 l_19 => Tr.call (Task.call 105 [V.d (D.l b_5 l_6), V.d (D.l b_18 l_19)] []) fun o_20 => ift o_20.snd.isEmpty (asD o_20.fst fun d_21 => asL d_21 fun b_22 l_23 => Tr.call (Task.at_ 150 0 [true, true, true, true, true, true, true, true, true, true, true, true, true, true, true, true] (sv 133 [(4, V.d (D.i .u64 n_0)), (11, V.d (D.l b_22 l_23)), (13, V.d (D.l true [D.i .u32 1]))]) [] []) Tr.ret))) (Tr.call (Task.call 106 [V.d (D.i .i64 (IntKind.i64.wrap (0 - IntKind.i64.wrap (n_4 - n_3))))] []) fun o_24 => ift o_24.snd.isEmpty (asD o_24.fst fun d_25 => asL d_25 fun b_26 l_27 => Tr.call (Task.at_ 150 0 [true, true, true, true, true, true, true, true, true, true, true, true, true, true, true, true] (sv 133 [(4, V.d (D.i .u64 n_0)), (11, V.d (D.l b_5 l_6)), (13, V.d (D.l b_26 l_27))]) [(11, 1)] []) Tr.ret)))) :=
 rk_of (by kernel_rfl)
theorem f14_at45055_1 (n_0 : Int) (b_1 : Bool) (l_2 : List D) (n_3 : Int) (n_4 : Int) (b_5 : Bool) (l_6 : List D) (n_7 : Int) : rk Tryz.prog pol (Task.at_ 150 0 [false, true, false, true, true, true, true, true, true, true, true, true, true, true, true] (sv 133 [(4, V.d (D.i .u64 n_0)), (5, V.d (D.l b_1 l_2)), (7, V.d (D.i .i64 n_3)), (8, V.d (D.i .i64 n_4)), (11, V.d (D.l b_5 l_6)), (12, V.d (D.i .i64 n_7))]) [(5, 1)] []) = interp (rk Tryz.prog pol) ( brB (decide (n_7 < (↑l_2.length : Int))) (Tr.call (Task.call 105 [V.d (D.l b_5 l_6), V.d (D.l true [D.i .u32 10])] []) fun o_0 => ift o_0.snd.isEmpty (asD o_0.fst fun d_1 => asL d_1 fun b_2 l_3 => ob (getI l_2 n_7) fun d_4 => ift (d_4.width == 1) (ob l_2[n_7.toNat]? fun d_5 => ob d_5.cells[0]? fun d_6 => asI .u8 d_6 fun n_7_1 => Tr.call (Task.call 101 [V.d (D.i .u64 (IntKind.u64.wrap n_7_1))] []) fun o_8 => ift o_8.snd.isEmpty (asD o_8.fst fun d_9 => asL d_9 fun b_10 l_11 => Tr.call (Task.call 109 [V.d (D.l b_2 l_3), V.d (D.l b_10 l_11)] []) fun o_12 => ift o_12.snd.isEmpty (asD o_12.fst fun d_13 => asL d_13 fun b_14 l_15 => Tr.call (Task.at_ 150 0 [false, true, false, true, true, true, true, true, true, true, true, true, true, true, true] (sv 133 [(4, V.d (D.i .u64 n_0)), (5, V.d (D.l b_1 l_2)), (7, V.d (D.i .i64 n_3)), (8, V.d (D.i .i64 n_4)), (11, V.d (D.l b_14 l_15)), (12, V.d (D.i .i64 (IntKind.i64.wrap (n_7 + 1))))]) [(5, 1)] []) Tr.ret))))) (brB (decide (IntKind.i64.wrap (n_4 - n_3) ≥ 0)) (Tr.call (Task.call 106 [V.d (D.i .i64 (IntKind.i64.wrap (n_4 - n_3)))] []) fun o_16 => ift o_16.snd.isEmpty (asD o_16.fst fun d_17 => asL d_17 fun b_18 l_19 => Tr.call (Task.call 105 [V.d (D.l b_5 l_6), V.d (D.l b_18 l_19)] []) fun o_20 => ift o_20.snd.isEmpty (asD o_20.fst fun d_21 => asL d_21 fun b_22 l_23 => Tr.call (Task.at_ 150 0 [true, true, true, true, true, true, true, true, true, true, true, true, true, true, true, true] (sv 133 [(4, V.d (D.i .u64 n_0)), (11, V.d (D.l b_22 l_23)), (13, V.d (D.l true [D.i .u32 1]))]) [] []) Tr.ret))) (Tr.call (Task.call 106 [V.d (D.i .i64 (IntKind.i64.wrap (0 - IntKind.i64.wrap (n_4 - n_3))))] []) fun o_24 => ift o_24.snd.isEmpty (asD o_24.fst fun d_25 => asL d_25 fun b_26 l_27 => Tr.call (Task.at_ 150 0 [true, true, true, true, true, true, true, true, true, true, true, true, true, true, true, true] (sv 133 [(4, V.d (D.i .u64 n_0)), (11, V.d (D.l b_5 l_6)), (13, V.d (D.l b_26 l_27))]) [] []) Tr.ret)))) :=
 rk_of (by kernel_rfl)
theorem f14_at131071 (n_0 : Int) (b_1 : Bool) (l_2 : List D) (b_3 : Bool) (l_4 : List D) : rk Tryz.prog pol (Task.at_ 150 0 [true, true, true, true, true, true, true, true, true, true, true, true, true, true, true, true] (sv 133 [(4, V.d (D.i .u64 n_0)), (11, V.d (D.l b_1 l_2)), (13, V.d (D.l b_3 l_4))]) [] []) = interp (rk Tryz.prog pol) ( Tr.call (Task.call 189 [V.d (D.l b_1 l_2), V.d (D.l b_3 l_4)] []) fun o_0 => ift o_0.snd.isEmpty (unT o_0.fst fun l_1 => ift (l_1.length == 2) (asD (l_1.getD 0 (V.d (D.b false))) fun d_2 => asI .u64 d_2 fun n_3 => asD (l_1.getD 1 (V.d (D.b false))) fun d_4 => asB d_4 fun b_5 => brB (!b_5) (Tr.ret (V.t [V.d (D.i .u64 0), V.d (D.i .i64 5)], [])) (Tr.ret (V.t [V.d (D.i .u64 (IntKind.u64.wrap (↑(BitVec.ofInt IntKind.u64.bits n_0 ||| BitVec.ofInt IntKind.u64.bits n_3).toNat : Int))), V.d (D.i .i64 0)], []))))) :=
 rk_of (by kernel_rfl)
theorem f14_at131071_1 (n_0 : Int) (b_1 : Bool) (l_2 : List D) (b_3 : Bool) (l_4 : List D) : rk Tryz.prog pol (Task.at_ 150 0 [true, true, true, true, true, true, true, true, true, true, true, true, true, true, true, true] (sv 133 [(4, V.d (D.i .u64 n_0)), (11, V.d (D.l b_1 l_2)), (13, V.d (D.l b_3 l_4))]) [(11, 1)] []) = interp (rk Tryz.prog pol) ( Tr.call (Task.call 189 [V.d (D.l b_1 l_2), V.d (D.l b_3 l_4)] []) fun o_0 => ift o_0.snd.isEmpty (unT o_0.fst fun l_1 => ift (l_1.length == 2) (asD (l_1.getD 0 (V.d (D.b false))) fun d_2 => asI .u64 d_2 fun n_3 => asD (l_1.getD 1 (V.d (D.b false))) fun d_4 => asB d_4 fun b_5 => brB (!b_5) (Tr.ret (V.t [V.d (D.i .u64 0), V.d (D.i .i64 5)], [])) (Tr.ret (V.t [V.d (D.i .u64 (IntKind.u64.wrap (↑(BitVec.ofInt IntKind.u64.bits n_0 ||| BitVec.ofInt IntKind.u64.bits n_3).toNat : Int))), V.d (D.i .i64 0)], []))))) :=
 rk_of (by kernel_rfl)
end Go.Dn.Dec
namespace Go.Dn.Dec
open Go.Proofs
theorem cells0_i (k : IntKind) (n : Int) : (D.i k n).cells[0]? = some (D.i k n) := rfl
theorem width1_i (k : IntKind) (n : Int) : ((D.i k n).width == 1) = true := rfl
theorem norm_loop (b : Bool) (a : List Int) (ha : U32 a) (hb : a.length ≤ 1000000) : ∀ n : Nat, n ≤ a.length → valL (a.take n) = valL a →
  rk Tryz.prog pol (Task.at_ 152 0 [false, false, true, true] (sv 23 [(0, V.d (D.l b (ints .u32 a))), (3, V.d (D.i .i64 (n : Int)))]) [] []) = some (.d (nl (valL a)), [])
 | 0, hn, hv => by
  have h0 : valL a = 0 := by rw [← hv]; rfl
  have e : nl (valL a) = .l true [] := by rw [h0]; exact nl_of limbs_zero
  rw [f58_at19, st_f (by decide), interp_call_ret, f58_at195, st_F, st_if (by simp), head_ints, st_ift]
  have e2 : List.take (((0 : Nat) : Int).toNat - 0) (List.drop 0 (ints .u32 a)) = [] := rfl
  rw [e2, headOk_nil, st_ift, st_if (by decide), interp_ret, e]
  rfl
 | n + 1, hn, hv => by
  have hx : n < a.length := by omega
  have gx := List.getElem?_eq_getElem hx
  have hw : IntKind.i64.wrap (((n + 1 : Nat) : Int) - 1) = (n : Int) := by rw [wrap_i64] <;> omega
  have hg : (ints .u32 a)[n]? = some (D.i .u32 a[n]) := by rw [get_ints, gx]; rfl
  rw [f58_at19, st_t (by omega), hw, getI_nat, Int.toNat_natCast, st_ob hg, width1_i, st_ift, st_ob hg, st_ob (cells0_i _ _), st_asI, interp_call_ret, f58_at195]
  by_cases h0 : a[n] = 0
  ·have ih := norm_loop b a ha hb n (by omega) (by rw [← hv]; exact (val_take_zero a n (by rw [gx, h0])).symm)
   rw [h0, st_bt (by rfl), hw, interp_call_ret, ih]
  ·have e : nl (valL a) = .l (a.take (n + 1)).isEmpty (ints .u32 (a.take (n + 1))) := by rw [← hv]; exact nl_of (limbs_take ha hx h0)
   have e2 : List.take ((((n + 1 : Nat) : Int)).toNat - 0) (List.drop 0 (ints .u32 a)) = ints .u32 (a.take (n + 1)) := by rw [List.drop_zero, take_ints]; rfl
   rw [st_bf (beq_eq_false_iff_ne.2 h0), st_if (by rw [len_ints]; omega), head_ints, st_ift, e2, head_ints, st_ift, st_if (by rw [len_ints, List.length_take]; omega), interp_ret, e, isEmpty_ints, List.nil_append]
theorem norm_run (b : Bool) (a : List Int) (ha : U32 a) (hb : a.length ≤ 1000000) : rk Tryz.prog pol (Task.call 152 [V.d (D.l b (ints .u32 a))] []) = some (.d (nl (valL a)), []) := by
 rw [f58, interp_call_ret, len_ints]
 exact norm_loop b a ha hb a.length (Nat.le_refl _) (by rw [List.take_length])
theorem normm_loop (a : List Int) (ha : U32 a) (hb : a.length ≤ 1000000) : ∀ n : Nat, n ≤ a.length → valL (a.take n) = valL a →
  rk Tryz.prog pol (Task.at_ 152 1 [false, false, true, true] (sv 23 [(0, V.m 0 0 a.length), (3, V.d (D.i .i64 (n : Int)))]) [] [Ob.cells (cellsOf a) []]) = some (.d (nl (valL a)), [Ob.cells (cellsOf a) []])
 | 0, hn, hv => by
  have h0 : valL a = 0 := by rw [← hv]; rfl
  have e : nl (valL a) = .l true [] := by rw [h0]; exact nl_of limbs_zero
  have hv0 : o_tail [Ob.cells (cellsOf a) []] 1 (V.m 0 0 (((0 : Nat) : Int).toNat - 0)) = some (ints .u32 (a.take 0)) := view_cells a 0 (by omega)
  rw [f58_at19_1, st_f (by decide), interp_call_ret, f58_at195_1, st_F, st_if (by simp), st_ob hv0, head_ints, st_ift, st_if (by simp), interp_ret, e]
  rfl
 | n + 1, hn, hv => by
  have hx : n < a.length := by omega
  have gx := List.getElem?_eq_getElem hx
  have hw : IntKind.i64.wrap (((n + 1 : Nat) : Int) - 1) = (n : Int) := by rw [wrap_i64] <;> omega
  have hg : (cellsOf a)[0 + n]? = some (V.d (D.i .u32 a[n])) := by rw [Nat.zero_add, cellsOf_get, gx]; rfl
  have hni : (0 : Int) ≤ (n : Int) ∧ (n : Int) < (a.length : Int) := by omega
  rw [f58_at19_1, st_t (by omega), hw, st_if hni, Int.toNat_natCast, st_ob hg, asD_d, st_asI, interp_call_ret, f58_at195_1]
  by_cases h0 : a[n] = 0
  ·have ih := normm_loop a ha hb n (by omega) (by rw [← hv]; exact (val_take_zero a n (by rw [gx, h0])).symm)
   rw [h0, st_bt (by rfl), hw, interp_call_ret, ih]
  ·have e : nl (valL a) = .l (a.take (n + 1)).isEmpty (ints .u32 (a.take (n + 1))) := by rw [← hv]; exact nl_of (limbs_take ha hx h0)
   have hv1 : o_tail [Ob.cells (cellsOf a) []] 1 (V.m 0 0 ((((n + 1 : Nat) : Int)).toNat - 0)) = some (ints .u32 (a.take (n + 1))) := view_cells a (n + 1) (by omega)
   rw [st_bf (beq_eq_false_iff_ne.2 h0), st_if (by omega), st_ob hv1, head_ints, st_ift, st_if (by rw [len_ints, List.length_take]; omega), interp_ret, e, isEmpty_ints, List.nil_append]
theorem normm_run (a : List Int) (ha : U32 a) (hb : a.length ≤ 1000000) : rk Tryz.prog pol (Task.call 152 [V.m 0 0 a.length] [Ob.cells (cellsOf a) []]) = some (.d (nl (valL a)), [Ob.cells (cellsOf a) []]) := by
 rw [f58m, interp_call_ret]
 exact normm_loop a ha hb a.length (Nat.le_refl _) (by rw [List.take_length])
theorem rnorm_ws (b : Bool) (x : Nat) (hx : Fits x) : rk Tryz.prog pol (Task.call 152 [V.d (D.l b (ws x))] []) = some (.d (.l (nb x) (ws x)), []) := by
 have := norm_run b (limbs x) (limbs_u32 x) (by have := hx.len; omega)
 rw [val_limbs] at this
 exact this
theorem rof_ws (n : Nat) (h : n < 18446744073709551616) : rk Tryz.prog pol (Task.call 101 [V.d (D.i .u64 (n : Int))] []) = some (.d (.l (nb n) (ws n)), []) := by
 rw [f30]
 have e : [D.i IntKind.u32 (IntKind.u32.wrap n), D.i IntKind.u32 (IntKind.u32.wrap ((n : Int).fdiv 4294967296))] = ints .u32 [((n % W : Nat) : Int), ((n / W : Nat) : Int)] := by
  rw [u32_wrap, u32_wrap, fdiv_W, mod_W, mod_32 (by unfold W; omega)]; rfl
 have hv : valL [((n % W : Nat) : Int), ((n / W : Nat) : Int)] = n := by
  simp only [valL, Int.toNat_natCast]
  have := Nat.mod_add_div n W; omega
 have hu : U32 [((n % W : Nat) : Int), ((n / W : Nat) : Int)] := by
  intro z hz
  have h1 := Nat.mod_lt n W_pos
  have h2 : n / W < 4294967296 := by unfold W; omega
  unfold W at *
  simp at hz
  rcases hz with rfl | rfl <;> omega
 have hc := norm_run true _ hu (by simp)
 rw [hv, nl_ws] at hc
 rw [e, st_L hc, interp_ret]
def dg (x i : Nat) : Nat := x / W ^ i % W
theorem dg_lt (x i : Nat) : dg x i < 4294967296 := Nat.mod_lt _ W_pos
theorem dg_beyond {x i : Nat} (h : (limbs x).length ≤ i) : x / W ^ i = 0 := by
 refine Nat.div_eq_of_lt (Nat.lt_of_lt_of_le (limbs_lt_len x) (Nat.pow_le_pow_right W_pos h))
theorem ws_get {x i : Nat} (h : i < (limbs x).length) : (ws x)[i]? = some (D.i .u32 ((dg x i : Nat) : Int)) := by
 rw [ws, get_ints, limbs_get x i h]; rfl
theorem rat_ws (b : Bool) (x i : Nat) : rk Tryz.prog pol (Task.call 155 [V.d (D.l b (ws x)), V.d (D.i .i64 (i : Int))] []) = some (.d (.i .u64 ((dg x i : Nat) : Int)), []) := by
 rw [f57, ws_len]
 by_cases h : i < (limbs x).length
 ·have hl := dg_lt x i
  have hw : IntKind.u64.wrap ((dg x i : Nat) : Int) = ((dg x i : Nat) : Int) := by rw [u64_wrap]; omega
  rw [st_t (by omega), getI_nat, st_ob (ws_get h), width1_i, st_ift, Int.toNat_natCast, st_ob (ws_get h), st_ob (cells0_i _ _), st_asI, interp_ret, hw]
 ·rw [st_f (by omega), interp_ret]
  have : dg x i = 0 := by unfold dg; rw [dg_beyond (by omega)]; exact Nat.zero_mod _
  rw [this]; rfl
theorem rbit_ws (b : Bool) (x i : Nat) (hi : i < 1000000000) : rk Tryz.prog pol (Task.call 153 [V.d (D.l b (ws x)), V.d (D.i .i64 (i : Int))] []) = some (.d (.i .u64 ((x / 2 ^ i % 2 : Nat) : Int)), []) := by
 rw [f59]
 have e1 : (i : Int).tdiv 32 = ((i / 32 : Nat) : Int) := tdiv_nat i 32
 have e2 : (i : Int).tmod 32 = ((i % 32 : Nat) : Int) := tmod_nat i 32
 have hw : IntKind.i64.wrap ((i / 32 : Nat) : Int) = ((i / 32 : Nat) : Int) := by rw [wrap_i64] <;> omega
 have hm : min (((i % 32 : Nat) : Int)).toNat 64 = i % 32 := by rw [Int.toNat_natCast]; omega
 have hd := dg_lt x (i / 32)
 have hf : ((dg x (i / 32) : Nat) : Int).fdiv (2 ^ (i % 32)) = ((dg x (i / 32) / 2 ^ (i % 32) : Nat) : Int) := by
  have := fdiv_nat (dg x (i / 32)) (2 ^ (i % 32))
  rwa [Int.natCast_pow] at this
 have hle : dg x (i / 32) / 2 ^ (i % 32) < 18446744073709551616 := Nat.lt_of_le_of_lt (Nat.div_le_self _ _) (by omega)
 have ha : (BitVec.ofInt IntKind.u64.bits ((dg x (i / 32) / 2 ^ (i % 32) : Nat) : Int) &&& BitVec.ofInt IntKind.u64.bits 1).toNat = x / 2 ^ i % 2 := by
  show (BitVec.ofInt 64 ((dg x (i / 32) / 2 ^ (i % 32) : Nat) : Int) &&& BitVec.ofInt 64 1).toNat = _
  rw [BitVec.toNat_and, BitVec.ofInt_natCast, BitVec.toNat_ofNat]
  have : (BitVec.ofInt 64 1).toNat = 1 := by decide
  rw [this, Nat.and_one_is_mod, ← bit_word x i]
  unfold dg
  unfold dg at hle
  rw [Nat.mod_eq_of_lt (show _ < 2 ^ 64 from hle)]
 have hw2 : IntKind.u64.wrap ((x / 2 ^ i % 2 : Nat) : Int) = ((x / 2 ^ i % 2 : Nat) : Int) := by rw [u64_wrap]; omega
 rw [e1, hw, st_I (rat_ws b x (i / 32)), e2, hm, hf, ha, hw2, st_if (by omega), interp_ret]
theorem rbits_loop (b : Bool) (x : Nat) : ∀ n : Nat, n < 1000000000 → x < 2 ^ n →
  rk Tryz.prog pol (Task.at_ 103 0 [false, false, true, true, true] (sv 22 [(3, V.d (D.l b (ws x))), (4, V.d (D.i .i64 (n : Int)))]) [] []) = some (.d (.i .i64 (blen x : Nat)), [])
 | 0, hn, hx => by
  have : x = 0 := by simpa using hx
  subst this
  rw [f41_at39, st_f (by decide), interp_call_ret, f41_at391, st_F, interp_ret]; rfl
 | n + 1, hn, hx => by
  have hw : IntKind.i64.wrap (((n + 1 : Nat) : Int) - 1) = (n : Int) := by rw [wrap_i64] <;> omega
  rw [f41_at39, st_t (by omega), hw, st_I (rbit_ws b x n (by omega)), interp_call_ret, f41_at391]
  have hd : x / 2 ^ n < 2 := Nat.div_lt_of_lt_mul (by rw [Nat.mul_comm, Nat.mul_comm, ← Nat.pow_succ]; exact hx)
  by_cases h : x < 2 ^ n
  ·have e : x / 2 ^ n % 2 = 0 := by rw [Nat.div_eq_of_lt h]
   rw [e, st_bt (by rfl), hw, interp_call_ret]
   exact rbits_loop b x n (by omega) h
  ·have e : x / 2 ^ n % 2 = 1 := by
    have : 0 < x / 2 ^ n := Nat.div_pos (by omega) (Nat.pow_pos (by decide))
    omega
   rw [e, st_bf (by rfl), interp_ret, blen_eq (by omega) hx]
theorem rbits_ws (b : Bool) (x : Nat) (hx : Fits x) : rk Tryz.prog pol (Task.call 103 [V.d (D.l b (ws x))] []) = some (.d (.i .i64 (blen x : Nat)), []) := by
 have hl := hx.len
 have hw : IntKind.i64.wrap (32 * ((limbs x).length : Int)) = ((32 * (limbs x).length : Nat) : Int) := by rw [wrap_i64] <;> omega
 rw [f41, st_L (rnorm_ws b x hx), ws_len, hw, interp_call_ret]
 exact rbits_loop (nb x) x (32 * (limbs x).length) (by omega) (by rw [← W_pow']; exact limbs_lt_len x)
theorem dg_split (x i : Nat) : x / W ^ i = W * (x / W ^ (i + 1)) + dg x i := by
 unfold dg
 rw [Nat.pow_succ, ← Nat.div_div_eq_div_mul]
 exact (Nat.div_add_mod _ _).symm
theorem rcmp_loop (b c : Bool) (x y : Nat) : ∀ n : Nat, n < 1000000000 → x / W ^ n = y / W ^ n →
  rk Tryz.prog pol (Task.at_ 108 0 [false, true, false, true] (sv 30 [(0, V.d (D.l b (ws x))), (1, V.d (D.l c (ws y))), (5, V.d (D.i .i64 ((n : Int) - 1)))]) [] []) = some (.d (.i .i64 (cmpN x y)), [])
 | 0, hn, h => by
  have : x = y := by simpa using h
  subst this
  rw [f44_at21, st_f (by decide), interp_ret]
  simp [cmpN]
 | n + 1, hn, h => by
  have e0 : ((n + 1 : Nat) : Int) - 1 = (n : Int) := by omega
  have hw : IntKind.i64.wrap ((n : Int) - 1) = (n : Int) - 1 := by rw [wrap_i64] <;> omega
  have sx := dg_split x n
  rw [h] at sx
  have sy := dg_split y n
  have hlt : ∀ p q : Nat, p / W ^ n < q / W ^ n → p < q := fun p q h => by
   rcases Nat.lt_or_ge p q with h1 | h1
   ·exact h1
   ·exact absurd (Nat.div_le_div_right (c := W ^ n) h1) (by omega)
  rw [e0, f44_at21, st_t (by omega), st_I (rat_ws b x n), st_I (rat_ws c y n)]
  by_cases h1 : dg x n < dg y n
  ·have := hlt x y (by omega)
   rw [st_t (by omega), interp_ret, cmpN, if_pos this]
  ·rw [st_f (by omega), st_I (rat_ws b x n), st_I (rat_ws c y n)]
   by_cases h2 : dg y n < dg x n
   ·have := hlt y x (by omega)
    rw [st_t (by omega), interp_ret, cmpN, if_neg (by omega), if_pos this]
   ·rw [st_f (by omega), hw, interp_call_ret]
    exact rcmp_loop b c x y n (by omega) (by omega)
theorem rcmp_ws (b c : Bool) (x y : Nat) (hx : Fits x) (hy : Fits y) : rk Tryz.prog pol (Task.call 108 [V.d (D.l b (ws x)), V.d (D.l c (ws y))] []) = some (.d (.i .i64 (cmpN x y)), []) := by
 have lx := hx.len
 have ly := hy.len
 have e : IntKind.i64.wrap ((if ((ws y).length : Int) > ((ws x).length : Int) then ((ws y).length : Int) else ((ws x).length : Int)) - 1) = ((max (limbs x).length (limbs y).length : Nat) : Int) - 1 := by
  rw [ws_len, ws_len, wrap_i64]
  ·split <;> omega
  ·split <;> omega
  ·split <;> omega
 rw [f44, e, interp_call_ret]
 exact rcmp_loop b c x y _ (by omega) (by rw [dg_beyond (by omega), dg_beyond (by omega)])
theorem rlow_ws (b : Bool) (x : Nat) : rk Tryz.prog pol (Task.call 110 [V.d (D.l b (ws x))] []) = some (.d (.i .u64 ((x % 18446744073709551616 : Nat) : Int)), []) := by
 have h0 : rk Tryz.prog pol (Task.call 155 [V.d (D.l b (ws x)), V.d (D.i .i64 0)] []) = _ := rat_ws b x 0
 have h1 : rk Tryz.prog pol (Task.call 155 [V.d (D.l b (ws x)), V.d (D.i .i64 1)] []) = _ := rat_ws b x 1
 have d0 := dg_lt x 0
 have d1 := dg_lt x 1
 have e0 : dg x 0 = x % 4294967296 := by unfold dg; rw [Nat.pow_zero, Nat.div_one]; rfl
 have e1 : dg x 1 = x / 4294967296 % 4294967296 := by unfold dg; rw [Nat.pow_one]; rfl
 have hw : IntKind.u64.wrap (((dg x 1 : Nat) : Int) * 4294967296) = ((dg x 1 * 2 ^ 32 : Nat) : Int) := by rw [u64_wrap]; omega
 have hor : (BitVec.ofInt IntKind.u64.bits ((dg x 0 : Nat) : Int) ||| BitVec.ofInt IntKind.u64.bits ((dg x 1 * 2 ^ 32 : Nat) : Int)).toNat = x % 18446744073709551616 := by
  have := or_nat (a := dg x 0) (b := dg x 1 * 2 ^ 32) (by omega) (by omega)
  rw [or_add (by omega)] at this
  refine Eq.trans this ?_
  omega
 have hw2 : IntKind.u64.wrap ((x % 18446744073709551616 : Nat) : Int) = ((x % 18446744073709551616 : Nat) : Int) := by rw [u64_wrap]; omega
 rw [f45, st_I h0, st_I h1, hw, hor, hw2, interp_ret]
end Go.Dn.Dec
namespace Go.Dn.Dec
open Go.Proofs
def raT (b1 b2 : Bool) (x y : Nat) (b4 : Bool) (out : List Int) (c i : Nat) : Task :=
 Task.at_ 109 0 [false, true, false, true, true, true] (sv 42 [(0, V.d (D.l b1 (ws x))), (1, V.d (D.l b2 (ws y))), (5, V.d (D.l b4 (ints .u32 out))), (6, V.d (D.i .u64 (c : Int))), (7, V.d (D.i .i64 (i : Int)))]) [(5, 1)] []
theorem radd_step (b1 b2 : Bool) (x y : Nat) (b4 : Bool) (out : List Int) (c i : Nat) (hi : i ≤ 1000000) (hl : out.length = i) (hc : c < 4294967296) :
  rk Tryz.prog pol (Task.at_ 109 0 [true, false, false, false, true, false, true, true, true]
   (sv 42 [(0, V.d (D.l b1 (ws x))), (1, V.d (D.l b2 (ws y))), (5, V.d (D.l b4 (ints .u32 out))), (6, V.d (D.i .u64 (c : Int))), (7, V.d (D.i .i64 (i : Int))), (21, V.d (D.b true))]) [(5, 1)] []) =
  rk Tryz.prog pol (raT b1 b2 x y false (out ++ [(((c + dg x i + dg y i) % W : Nat) : Int)]) ((c + dg x i + dg y i) / W) (i + 1)) := by
 have d1 := dg_lt x i
 have d2 := dg_lt y i
 have w1 : IntKind.u64.wrap ((c : Int) + ((dg x i : Nat) : Int)) = ((c + dg x i : Nat) : Int) := by rw [u64_wrap]; omega
 have w2 : IntKind.u64.wrap (((c + dg x i : Nat) : Int) + ((dg y i : Nat) : Int)) = ((c + dg x i + dg y i : Nat) : Int) := by rw [u64_wrap]; omega
 have w3 : IntKind.u32.wrap ((c + dg x i + dg y i : Nat) : Int) = (((c + dg x i + dg y i) % W : Nat) : Int) := by rw [u32_wrap, mod_W]
 have w4 : IntKind.i64.wrap ((i : Int) + 1) = ((i + 1 : Nat) : Int) := by rw [wrap_i64] <;> omega
 rw [f28_at791, st_T, st_I (rat_ws b1 x i), st_I (rat_ws b2 y i), head_ints, st_ift, Bool.or_true, st_ift, st_if (by rw [len_ints]; omega), Bool.and_false, w1, w2, w3, w4, fdiv_W, ints_snoc, interp_call_ret]
 rfl
theorem radd_loop (b1 b2 : Bool) (x y : Nat) (L : Nat) (hLx : (limbs x).length ≤ L) (hLy : (limbs y).length ≤ L) (hL : L ≤ 100000) : ∀ (d i : Nat) (b4 : Bool) (out : List Int) (c : Nat), i + d = L + 1 → U32 out → out.length = i → c < 2 → valL out + W ^ i * (c + x / W ^ i + y / W ^ i) = x + y → (d = 0 → c = 0) →
  rk Tryz.prog pol (raT b1 b2 x y b4 out c i) = some (.d (.l (nb (x + y)) (ws (x + y))), []) := by
 intro d
 induction d with
 | zero =>
  intro i b4 out c hi hu hl hc hv h0
  have zx : x / W ^ i = 0 := dg_beyond (by omega)
  have zy : y / W ^ i = 0 := dg_beyond (by omega)
  rw [zx, zy, h0 rfl] at hv
  have hn := norm_run b4 out hu (by omega)
  rw [show valL out = x + y by simpa using hv, nl_ws] at hn
  unfold raT
  rw [f28_at87, ws_len, ws_len, st_f (by omega), st_f (by omega), interp_call_ret, f28_at791, h0 rfl, st_bf (by rfl), st_L hn, interp_ret]
 | succ d ih =>
  intro i b4 out c hi hu hl hc hv h0
  have d1 := dg_lt x i
  have d2 := dg_lt y i
  have sx := dg_split x i
  have sy := dg_split y i
  have step : rk Tryz.prog pol (raT b1 b2 x y false (out ++ [(((c + dg x i + dg y i) % W : Nat) : Int)]) ((c + dg x i + dg y i) / W) (i + 1)) = some (.d (.l (nb (x + y)) (ws (x + y))), []) := by
   have hq : (c + dg x i + dg y i) / W < 2 := Nat.div_lt_of_lt_mul (by unfold W; omega)
   refine ih (i + 1) false _ _ (by omega) (hu.snoc (Nat.mod_lt _ W_pos)) (by simp [hl]) hq ?_ ?_
   ·rw [val_append, hl, ← hv, sx, sy]
    have e := Nat.mod_add_div (c + dg x i + dg y i) W
    simp only [valL, Int.toNat_natCast, Nat.mul_zero, Nat.add_zero]
    rw [Nat.pow_succ, Nat.mul_assoc, Nat.add_assoc, ← Nat.mul_add]
    congr 2
    rw [Nat.mul_add, Nat.mul_add]
    omega
   ·intro hd
    have zx : dg x i = 0 := by unfold dg; rw [dg_beyond (by omega)]; exact Nat.zero_mod _
    have zy : dg y i = 0 := by unfold dg; rw [dg_beyond (by omega)]; exact Nat.zero_mod _
    rw [zx, zy]
    exact Nat.div_eq_of_lt (by unfold W; omega)
  rw [← step, ← radd_step b1 b2 x y b4 out c i (by omega) hl (by omega)]
  unfold raT
  rw [f28_at87, ws_len, ws_len]
  by_cases h1 : i < (limbs x).length
  ·rw [st_t (by omega), interp_call_ret]
  ·rw [st_f (by omega)]
   by_cases h2 : i < (limbs y).length
   ·rw [st_t (by omega), interp_call_ret]
   ·rw [st_f (by omega), interp_call_ret]
    by_cases h3 : 0 < c
    ·rw [show decide ((c : Int) > 0) = true from decide_eq_true (by omega)]
    ·-- nothing is left
     have hc0 : c = 0 := by omega
     have zx : x / W ^ i = 0 := dg_beyond (by omega)
     have zy : y / W ^ i = 0 := dg_beyond (by omega)
     rw [zx, zy, hc0] at hv
     have hn := norm_run b4 out hu (by omega)
     rw [show valL out = x + y by simpa using hv, nl_ws] at hn
     rw [show decide ((c : Int) > 0) = false from decide_eq_false (by omega), f28_at791, st_F, st_L hn, interp_ret, radd_step b1 b2 x y b4 out c i (by omega) hl (by omega), step]
theorem radd_ws (b c : Bool) (x y : Nat) (hx : Fits x) (hy : Fits y) : rk Tryz.prog pol (Task.call 109 [V.d (D.l b (ws x)), V.d (D.l c (ws y))] []) = some (.d (.l (nb (x + y)) (ws (x + y))), []) := by
 have lx := hx.len
 have ly := hy.len
 rw [f28, interp_call_ret]
 exact radd_loop b c x y (max (limbs x).length (limbs y).length) (by omega) (by omega) (by omega) _ 0 true [] 0 (by rw [Nat.zero_add]) U32.nil rfl (by decide) (by simp [valL]) (by omega)
def rsT (b1 b2 : Bool) (x y : Nat) (b4 : Bool) (out : List Int) (c i : Nat) : Task :=
 Task.at_ 154 0 [false, true, false, true, true, true, true] (sv 40 [(0, V.d (D.l b1 (ws x))), (1, V.d (D.l b2 (ws y))), (6, V.d (D.l b4 (ints .u32 out))), (7, V.d (D.i .u64 (c : Int))), (8, V.d (D.i .i64 (i : Int)))]) [(6, 1)] []
theorem mod_pow_succ (x i : Nat) : x % W ^ (i + 1) = x % W ^ i + W ^ i * dg x i := by
 unfold dg
 rw [Nat.pow_succ, Nat.mod_mul]
theorem rsub_loop (b1 b2 : Bool) (x y : Nat) (hyx : y ≤ x) (hL : (limbs x).length ≤ 100000) : ∀ (d i : Nat) (b4 : Bool) (out : List Int) (c : Nat), i + d = (limbs x).length → U32 out → out.length = i → c < 2 → valL out + y % W ^ i = x % W ^ i + W ^ i * c →
  rk Tryz.prog pol (rsT b1 b2 x y b4 out c i) = some (.t [.d (.l (nb (x - y)) (ws (x - y))), .d (.b true)], []) := by
 intro d
 induction d with
 | zero =>
  intro i b4 out c hi hu hl hc hv
  have hxl := limbs_lt_len x
  have hil : i = (limbs x).length := by omega
  subst hil
  rw [Nat.mod_eq_of_lt hxl, Nat.mod_eq_of_lt (Nat.lt_of_le_of_lt hyx hxl)] at hv
  have hvl := val_lt hu
  rw [hl] at hvl
  have hc0 : c = 0 := by
   rcases Nat.eq_zero_or_pos c with h | h
   ·exact h
   ·have : c = 1 := by omega
    rw [this] at hv; omega
  rw [hc0] at hv
  have hn := norm_run b4 out hu (by omega)
  rw [show valL out = x - y by omega, nl_ws] at hn
  unfold rsT
  rw [f69_at175, ws_len, st_f (by omega), st_L hn, interp_ret]
 | succ d ih =>
  intro i b4 out c hi hu hl hc hv
  have d1 := dg_lt x i
  have d2 := dg_lt y i
  obtain ⟨D, hD⟩ : ∃ D, D = dg x i + 4294967296 - dg y i - c := ⟨_, rfl⟩
  have w1 : IntKind.u64.wrap (((dg x i : Nat) : Int) + 4294967296) = ((dg x i + 4294967296 : Nat) : Int) := by rw [u64_wrap]; omega
  have w2 : IntKind.u64.wrap (((dg x i + 4294967296 : Nat) : Int) - ((dg y i : Nat) : Int)) = ((dg x i + 4294967296 - dg y i : Nat) : Int) := by rw [u64_wrap]; omega
  have w3 : IntKind.u64.wrap (((dg x i + 4294967296 - dg y i : Nat) : Int) - (c : Int)) = (D : Int) := by rw [u64_wrap]; omega
  obtain ⟨R, Q, hR, hQ, e⟩ : ∃ R Q, D % W = R ∧ D / W = Q ∧ R + 4294967296 * Q = D := ⟨_, _, rfl, rfl, Nat.mod_add_div D W⟩
  have hR32 : R < 4294967296 := hR ▸ Nat.mod_lt _ W_pos
  have w4 : IntKind.u32.wrap (D : Int) = (R : Int) := by rw [u32_wrap, mod_W, hR]
  have hq : Q ≤ 1 := by omega
  have w5 : IntKind.u64.wrap (1 - (D : Int).fdiv 4294967296) = ((1 - Q : Nat) : Int) := by rw [fdiv_W, hQ, u64_wrap]; omega
  have w6 : IntKind.i64.wrap ((i : Int) + 1) = ((i + 1 : Nat) : Int) := by rw [wrap_i64] <;> omega
  have ih' := ih (i + 1) false (out ++ [(R : Int)]) (1 - Q) (by omega) (hu.snoc hR32) (by simp [hl]) (by omega) (by
   rw [val_append, hl, mod_pow_succ, mod_pow_succ]
   simp only [valL, Int.toNat_natCast, Nat.mul_zero, Nat.add_zero]
   have k : R + dg y i + c = dg x i + W * (1 - Q) := by
    rcases Nat.lt_or_ge Q 1 with h | h
    ·have : Q = 0 := by omega
     rw [this] at e ⊢; unfold W; omega
    ·have : Q = 1 := by omega
     rw [this] at e ⊢; unfold W; omega
   have k2 : W ^ i * R + W ^ i * dg y i + W ^ i * c = W ^ i * dg x i + W ^ (i + 1) * (1 - Q) := by
    rw [← Nat.mul_add, ← Nat.mul_add, k, Nat.mul_add, Nat.pow_succ, Nat.mul_assoc]
   omega)
  unfold rsT at ih' ⊢
  rw [f69_at175, ws_len, st_t (by omega), st_I (rat_ws b1 x i), st_I (rat_ws b2 y i), head_ints, st_ift, Bool.or_true, st_ift, st_if (by rw [len_ints]; omega), Bool.and_false, w1, w2, w3, w4, w5, w6, ints_snoc, interp_call_ret]
  exact ih'
theorem rsub_ws (b c : Bool) (x y : Nat) (hx : Fits x) (hy : Fits y) : rk Tryz.prog pol (Task.call 154 [V.d (D.l b (ws x)), V.d (D.l c (ws y))] []) = some (if x < y then .t [.d (.l true []), .d (.b false)] else .t [.d (.l (nb (x - y)) (ws (x - y))), .d (.b true)], []) := by
 have lx := hx.len
 rw [f69, st_I (rcmp_ws b c x y hx hy)]
 by_cases h : x < y
 ·rw [if_pos h, st_t (by unfold cmpN; rw [if_pos h]; decide), interp_ret]
 ·rw [if_neg h, st_f (by unfold cmpN; rw [if_neg h]; split <;> decide), interp_call_ret]
  exact rsub_loop b c x y (by omega) (by omega) _ 0 true [] 0 (by rw [Nat.zero_add]) U32.nil rfl (by decide) (by simp [valL, Nat.mod_one])
end Go.Dn.Dec
namespace Go.Dn.Dec
open Go.Proofs
def rmI (bx by_ : Bool) (x y : List Int) (n i c k : Nat) (out : List Int) : Task :=
 Task.at_ 105 0 [false, true, false, true, false, false, true, false, false, true, false, true, true]
  (sv 68 [(0, V.d (D.l bx (ints .u32 x))), (1, V.d (D.l by_ (ints .u32 y))), (5, V.m 0 0 n), (6, V.d (D.i .i64 (i : Int))), (7, V.d (D.i .u64 (c : Int))), (8, V.d (D.i .i64 (k : Int)))]) [] [Ob.cells (cellsOf out) []]
def rmO (bx by_ : Bool) (x y : List Int) (n i : Nat) (out : List Int) : Task :=
 Task.at_ 105 0 [false, true, false, true, true] (sv 68 [(0, V.d (D.l bx (ints .u32 x))), (1, V.d (D.l by_ (ints .u32 y))), (5, V.m 0 0 n), (6, V.d (D.i .i64 (i : Int)))]) [] [Ob.cells (cellsOf out) []]
theorem rmul_inner (bx by_ : Bool) (xs y : List Int) (hxs : U32 xs) (hy : U32 y) (i n x : Nat) (hi : i < xs.length) (ex : xs[i] = (x : Int)) (hx : x < 4294967296) (hn : i + y.length < n) (hyl : n ≤ 1000000) :
  ∀ (d k : Nat) (c : Nat) (out : List Int), k + d = y.length → U32 out → out.length = n → c < 4294967296 → (∀ j, i + y.length ≤ j → j < out.length → out[j]? = some 0) →
  ∃ (c' : Nat) (out' : List Int), U32 out' ∧ out'.length = n ∧ c' < 4294967296 ∧ (∀ j, i + y.length ≤ j → j < out'.length → out'[j]? = some 0) ∧
   valL out' + W ^ (i + y.length) * c' = valL out + W ^ (i + k) * (c + x * valL (y.drop k)) ∧
   rk Tryz.prog pol (rmI bx by_ xs y n i c k out) = rk Tryz.prog pol (rmI bx by_ xs y n i c' y.length out') := by
 intro d
 induction d with
 | zero =>
  intro k c out hk hu hl hc hz
  have hky : k = y.length := by omega
  subst hky
  refine ⟨c, out, hu, hl, hc, hz, ?_, rfl⟩
  rw [List.drop_length]; simp [valL]
 | succ d ih =>
  intro k c out hk hu hl hc hz
  have hky : k < y.length := by omega
  have gy := List.getElem?_eq_getElem hky
  have gx := List.getElem?_eq_getElem hi
  obtain ⟨w, ew, hw32⟩ := hy.get hky
  have hj : i + k < out.length := by omega
  have gj := List.getElem?_eq_getElem hj
  obtain ⟨o, eo, ho32⟩ := hu.get hj
  have hm := mulW hx hw32
  have hT : c + o + x * w < 18446744073709551616 := by omega
  have hmod : (c + o + x * w) % W < 4294967296 := Nat.mod_lt _ W_pos
  have hdiv : (c + o + x * w) / W < 4294967296 := by unfold W; omega
  obtain ⟨c', out', u1, u2, u3, u4, u5, u6⟩ := ih (k + 1) ((c + o + x * w) / W) (out.set (i + k) (((c + o + x * w) % W : Nat) : Int)) (by omega) (hu.set _ hmod) (by simpa using hl) hdiv (zeros_set hz (by omega) _)
  refine ⟨c', out', u1, u2, u3, u4, ?_, ?_⟩
  ·rw [u5]
   have hs := val_set out (i + k) (((c + o + x * w) % W : Nat) : Int) hj
   rw [eo] at hs
   simp only [Int.toNat_natCast] at hs
   have hd := Nat.mod_add_div (c + o + x * w) W
   rw [drop_val hky, ew]
   simp only [Int.toNat_natCast]
   have e1 : W ^ (i + (k + 1)) * ((c + o + x * w) / W + x * valL (y.drop (k + 1))) = W ^ (i + k) * (W * ((c + o + x * w) / W)) + W ^ (i + k) * (W * (x * valL (y.drop (k + 1)))) := by
    rw [show i + (k + 1) = (i + k) + 1 from rfl, Nat.pow_succ, Nat.mul_assoc, Nat.mul_add, Nat.mul_add]
   have e2 : W ^ (i + k) * (c + x * (w + W * valL (y.drop (k + 1)))) = W ^ (i + k) * (c + x * w) + W ^ (i + k) * (W * (x * valL (y.drop (k + 1)))) := by
    rw [← Nat.mul_add]; congr 1
    rw [Nat.mul_add, ← Nat.add_assoc]; congr 1
    rw [Nat.mul_left_comm]
   rw [e1, e2]
   have e3 : W ^ (i + k) * ((c + o + x * w) % W) + W ^ (i + k) * (W * ((c + o + x * w) / W)) = W ^ (i + k) * (c + x * w) + W ^ (i + k) * o := by
    rw [← Nat.mul_add, hd, ← Nat.mul_add]; congr 1; omega
   omega
  ·rw [← u6]
   unfold rmI
   have hw1 : IntKind.i64.wrap ((i : Int) + (k : Int)) = ((i + k : Nat) : Int) := by rw [wrap_i64] <;> omega
   have hw2 : IntKind.i64.wrap ((k : Int) + 1) = ((k + 1 : Nat) : Int) := by rw [wrap_i64] <;> omega
   have ho : IntKind.u64.wrap (o : Int) = (o : Int) := by rw [u64_wrap]; omega
   have hxw : IntKind.u64.wrap (x : Int) = (x : Int) := by rw [u64_wrap]; omega
   have hww : IntKind.u64.wrap (w : Int) = (w : Int) := by rw [u64_wrap]; omega
   have hp : IntKind.u64.wrap ((x : Int) * (w : Int)) = ((x * w : Nat) : Int) := by rw [← Int.natCast_mul, u64_wrap, mod_64 (by omega)]
   have hco : IntKind.u64.wrap ((c : Int) + (o : Int)) = ((c + o : Nat) : Int) := by rw [u64_wrap]; omega
   have hw3 : IntKind.u64.wrap (((c + o : Nat) : Int) + ((x * w : Nat) : Int)) = ((c + o + x * w : Nat) : Int) := by rw [← Int.natCast_add, u64_wrap, mod_64 hT]
   have hw4 : IntKind.u32.wrap ((c + o + x * w : Nat) : Int) = (((c + o + x * w) % W : Nat) : Int) := by rw [u32_wrap, mod_W]
   have hw5 : ((c + o + x * w : Nat) : Int).fdiv 4294967296 = (((c + o + x * w) / W : Nat) : Int) := fdiv_W _
   generalize (c + o + x * w : Nat) = T at hw3 hw4 hw5 ⊢
   have hb1 : (0 : Int) ≤ ((i + k : Nat) : Int) ∧ ((i + k : Nat) : Int) < (n : Int) := by omega
   have hb2 : 0 + (i + k) < (cellsOf out).length := by rw [cellsOf_len]; omega
   have ho1 : (cellsOf out)[0 + (i + k)]? = some (V.d (D.i .u32 (o : Int))) := by rw [Nat.zero_add, cellsOf_get, gj, eo]; rfl
   have hx1 : (ints .u32 xs)[i]? = some (D.i .u32 (x : Int)) := by rw [get_ints, gx, ex]; rfl
   have hy1 : (ints .u32 y)[k]? = some (D.i .u32 (w : Int)) := by rw [get_ints, gy, ew]; rfl
   rw [f29_at10827, len_ints, st_t (by omega), hw1, st_if hb1, Int.toNat_natCast, Int.toNat_natCast, Int.toNat_natCast, st_ob ho1, asD_d, st_asI, getI_nat, st_ob hx1, width1_i, st_ift, st_ob hx1, st_ob (cells0_i _ _), st_asI, getI_nat, st_ob hy1, width1_i, st_ift, st_ob hy1, st_ob (cells0_i _ _), st_asI,
    st_if hb1, Bool.and_true, st_if hb2, ho, hxw, hww, hp, hco, hw3, hw4, hw5, hw2, Nat.zero_add, cells_set, interp_call_ret]
theorem rmul_row (bx by_ : Bool) (x y : List Int) (hx : U32 x) (hy : U32 y) (n : Nat) (hn : n = x.length + y.length + 1) (hb : n ≤ 1000000) (i : Nat) (hi : i < x.length) (out : List Int) (hu : U32 out) (hl : out.length = n) (hz : ∀ j, i + y.length ≤ j → j < out.length → out[j]? = some 0) :
  ∃ out', U32 out' ∧ out'.length = n ∧ (∀ j, (i + 1) + y.length ≤ j → j < out'.length → out'[j]? = some 0) ∧ valL out' = valL out + W ^ i * (x[i].toNat * valL y) ∧
   rk Tryz.prog pol (rmO bx by_ x y n i out) = rk Tryz.prog pol (rmO bx by_ x y n (i + 1) out') := by
 obtain ⟨a, ea, ha32⟩ := hx.get hi
 obtain ⟨c', o', u1, u2, u3, u4, u5, u6⟩ := rmul_inner bx by_ x y hx hy i n a hi ea ha32 (by omega) hb y.length 0 0 out (by omega) hu hl (by decide) hz
 have hj : i + y.length < o'.length := by omega
 refine ⟨o'.set (i + y.length) (c' : Int), u1.set _ u3, by simpa using u2, fun j h1 h2 => ?_, ?_, ?_⟩
 ·rw [List.getElem?_set_ne (by omega)]
  exact u4 j (by omega) (by simpa using h2)
 ·have hs := val_set o' (i + y.length) (c' : Int) hj
  have h0 : o'[i + y.length] = 0 := by
   have := u4 (i + y.length) (Nat.le_refl _) hj
   rw [List.getElem?_eq_getElem hj] at this
   exact Option.some.inj this
  rw [h0] at hs
  simp only [Int.toNat_natCast, Int.toNat_zero, Nat.mul_zero, Nat.add_zero] at hs
  rw [hs, u5, List.drop_zero, Nat.add_zero, Nat.zero_add, ea, Int.toNat_natCast]
 ·have e1 : rk Tryz.prog pol (rmO bx by_ x y n i out) = rk Tryz.prog pol (rmI bx by_ x y n i 0 0 out) := by
   unfold rmO rmI
   rw [f29_at43, len_ints, st_t (by omega), interp_call_ret]
   rfl
  rw [e1, u6]
  unfold rmI rmO
  have hw1 : IntKind.i64.wrap ((i : Int) + (y.length : Int)) = ((i + y.length : Nat) : Int) := by rw [wrap_i64] <;> omega
  have hw2 : IntKind.i64.wrap ((i : Int) + 1) = ((i + 1 : Nat) : Int) := by rw [wrap_i64] <;> omega
  have hw4 : IntKind.u32.wrap (c' : Int) = (c' : Int) := by rw [u32_wrap, mod_32 u3]
  have hb1 : (0 : Int) ≤ ((i + y.length : Nat) : Int) ∧ ((i + y.length : Nat) : Int) < (n : Int) := by omega
  have hb2 : 0 + (i + y.length) < (cellsOf o').length := by rw [cellsOf_len]; omega
  rw [f29_at10827, len_ints, st_f (by omega), hw1, hw2, hw4, st_if hb1, Int.toNat_natCast, Bool.and_true, st_if hb2, Nat.zero_add, cells_set, interp_call_ret]
theorem rmul_outer (bx by_ : Bool) (x y : List Int) (hx : U32 x) (hy : U32 y) (n : Nat) (hn : n = x.length + y.length + 1) (hb : n ≤ 1000000) : ∀ (d i : Nat) (out : List Int), i + d = x.length → U32 out → out.length = n → (∀ j, i + y.length ≤ j → j < out.length → out[j]? = some 0) → valL out = valL (x.take i) * valL y →
  rk Tryz.prog pol (rmO bx by_ x y n i out) = some (.d (.l (nb (valL x * valL y)) (ws (valL x * valL y))), []) := by
 intro d
 induction d with
 | zero =>
  intro i out hi hu hl hz hv
  have hix : i = x.length := by omega
  subst hix
  rw [List.take_length] at hv
  unfold rmO
  have hc := normm_run out hu (by omega)
  rw [hl, hv, nl_ws] at hc
  rw [f29_at43, len_ints, st_f (by omega), st_call hc, unCons_c, unCells_c, beq_self_eq_true, st_ift, show (([] : Fl) == []) = true from rfl, st_ift, unNil_n, asD_d, asL_l, interp_ret]
 | succ d ih =>
  intro i out hi hu hl hz hv
  have hix : i < x.length := by omega
  obtain ⟨o', u1, u2, u3, u4, u5⟩ := rmul_row bx by_ x y hx hy n hn hb i hix out hu hl hz
  rw [u5]
  refine ih (i + 1) o' (by omega) u1 u2 u3 ?_
  rw [u4, hv, List.take_add_one, List.getElem?_eq_getElem hix, val_append]
  simp only [Option.toList_some, valL, Nat.mul_zero, Nat.add_zero, List.length_take, Nat.min_eq_left (Nat.le_of_lt hix)]
  rw [Nat.add_mul, Nat.mul_assoc]
theorem rmul_ws (b c : Bool) (x y : Nat) (hx : Fits x) (hy : Fits y) : rk Tryz.prog pol (Task.call 105 [V.d (D.l b (ws x)), V.d (D.l c (ws y))] []) = some (.d (.l (nb (x * y)) (ws (x * y))), []) := by
 have lx := hx.len
 have ly := hy.len
 have h := rmul_outer b c (limbs x) (limbs y) (limbs_u32 x) (limbs_u32 y) ((limbs x).length + (limbs y).length + 1) rfl (by omega) (limbs x).length 0 (List.replicate ((limbs x).length + (limbs y).length + 1) 0) (by omega)
  (fun z hz => by rw [List.mem_replicate] at hz; omega) (by simp) (fun j _ hj => by simp at hj; simp [hj]) (by rw [val_replicate]; simp [valL])
 rw [val_limbs, val_limbs] at h
 unfold rmO at h
 rw [← cells_replicate, Int.natCast_zero] at h
 have hw1 : IntKind.i64.wrap (((limbs x).length : Int) + ((limbs y).length : Int)) = (((limbs x).length + (limbs y).length : Nat) : Int) := by rw [wrap_i64] <;> omega
 have hw2 : IntKind.i64.wrap ((((limbs x).length + (limbs y).length : Nat) : Int) + 1) = (((limbs x).length + (limbs y).length + 1 : Nat) : Int) := by rw [wrap_i64] <;> omega
 rw [f29, ws_len, ws_len, hw1, hw2, st_if (by omega), st_if rfl, st_if (by omega), Int.toNat_natCast, interp_call_ret]
 exact h
theorem rten_loop (n : Nat) (hn : n ≤ 1000) : ∀ (d i : Nat) (b : Bool), i + d = n →
  rk Tryz.prog pol (Task.at_ 106 0 [false, true, false, true, true, true] (sv 17 [(0, V.d (D.i .i64 (n : Int))), (3, V.d (D.l b (ws (10 ^ i)))), (4, V.d (D.i .i64 (i : Int)))]) [] []) = some (.d (.l (if d = 0 then b else nb (10 ^ n)) (ws (10 ^ n))), [])
 | 0, i, b, h => by
  have : i = n := by omega
  subst this
  rw [f31_at87, st_f (by omega), interp_ret, if_pos rfl]
 | d + 1, i, b, h => by
  have hw : IntKind.i64.wrap ((i : Int) + 1) = ((i + 1 : Nat) : Int) := by rw [wrap_i64] <;> omega
  have hm : rk Tryz.prog pol (Task.call 105 [V.d (D.l b (ws (10 ^ i))), V.d (D.l true [D.i IntKind.u32 10])] []) = some (.d (.l (nb (10 ^ i * 10)) (ws (10 ^ i * 10))), []) := by
   have := rmul_ws b true (10 ^ i) 10 (fits_pow (by omega)) (by have := fits_pow (n := 1) (by decide); rwa [Nat.pow_one] at this)
   rw [show ws 10 = [D.i IntKind.u32 10] by rw [ws, limbs_pos (by decide), show 10 / W = 0 by decide, limbs_zero]; rfl] at this
   exact this
  rw [f31_at87, st_t (by omega), st_L hm, hw, interp_call_ret, ← Nat.pow_succ]
  have := rten_loop n hn d (i + 1) (nb (10 ^ (i + 1))) (by omega)
  have e : (if d = 0 then nb (10 ^ (i + 1)) else nb (10 ^ n)) = nb (10 ^ n) := by
   split
   ·rw [show i + 1 = n by omega]
   ·rfl
  rw [this, e, if_neg (show ¬ d + 1 = 0 by omega)]
theorem ws_one : ws 1 = [D.i IntKind.u32 1] := by
 rw [ws, limbs_pos (by decide), show 1 / W = 0 by decide, limbs_zero]; rfl
def tb (n : Nat) : Bool := if n = 0 then true else nb (10 ^ n)
theorem rten_ws (n : Nat) (hn : n ≤ 1000) : rk Tryz.prog pol (Task.call 106 [V.d (D.i .i64 (n : Int))] []) = some (.d (.l (tb n) (ws (10 ^ n))), []) := by
 have := rten_loop n hn n 0 true (by omega)
 rw [Nat.pow_zero, ws_one] at this
 rw [f31, st_f (by omega), interp_call_ret]
 exact this
end Go.Dn.Dec
namespace Go.Dn.Dec
open Go.Proofs
section
variable {f : Task → Option Out}
theorem st_LB {t : Task} {b c : Bool} {l : List D} {e e' : V} {K : Bool → List D → Bool → Tr} (h : f t = some (.t [.d (.l b l), .d (.b c)], [])) :
  interp f (.call t fun o => ift o.snd.isEmpty (unT o.fst fun l => ift (l.length == 2) (asD (l.getD 0 e) fun d => asL d fun x y => asD (l.getD 1 e') fun d' => asB d' fun z => K x y z))) = interp f (K b l c) := st_call h
end
theorem or32l {z k : Nat} (hz : z < 2 ^ k) (hk : k < 32) : IntKind.u32.wrap (((BitVec.ofInt IntKind.u32.bits (z : Int) ||| BitVec.ofInt IntKind.u32.bits (IntKind.u32.wrap (1 * 2 ^ k))).toNat : Nat) : Int) = ((z + 2 ^ k : Nat) : Int) ∧ z + 2 ^ k < 4294967296 := by
 have h2 : 2 ^ k ≤ 2147483648 := Nat.le_trans (Nat.pow_le_pow_right (by decide) (show k ≤ 31 by omega)) (by decide)
 have hlt : z + 2 ^ k < 4294967296 := by omega
 refine ⟨?_, hlt⟩
 have e : (1 : Int) * 2 ^ k = ((2 ^ k : Nat) : Int) := by simp
 rw [e, u32_wrap (((2 ^ k : Nat)) : Int), mod_32 (by omega)]
 have h3 : (BitVec.ofInt IntKind.u32.bits (z : Int) ||| BitVec.ofInt IntKind.u32.bits ((2 ^ k : Nat) : Int)).toNat = z ||| 2 ^ k := by
  show (BitVec.ofInt 32 (z : Int) ||| BitVec.ofInt 32 ((2 ^ k : Nat) : Int)).toNat = _
  rw [BitVec.toNat_or, BitVec.ofInt_natCast, BitVec.ofInt_natCast, BitVec.toNat_ofNat, BitVec.toNat_ofNat, Nat.mod_eq_of_lt (by omega), Nat.mod_eq_of_lt (by omega)]
 have h4 : z ||| 2 ^ k = z + 2 ^ k := by
  have := or_add (a := 1) hz
  rwa [Nat.one_mul] at this
 rw [h3, h4, u32_wrap]; omega
theorem set_low {qs : List Int} (hu : U32 qs) {p : Nat} (hp : p / 32 < qs.length) (hv : valL qs < 2 ^ p) :
  ∃ z : Nat, qs[p / 32]? = some (z : Int) ∧ IntKind.u32.wrap (((BitVec.ofInt IntKind.u32.bits (z : Int) ||| BitVec.ofInt IntKind.u32.bits (IntKind.u32.wrap (1 * 2 ^ (p % 32)))).toNat : Nat) : Int) = ((z + 2 ^ (p % 32) : Nat) : Int) ∧
   U32 (qs.set (p / 32) ((z + 2 ^ (p % 32) : Nat) : Int)) ∧ valL (qs.set (p / 32) ((z + 2 ^ (p % 32) : Nat) : Int)) = valL qs + 2 ^ p := by
 have hwd := word_of hu hp
 have hlow : valL qs / W ^ (p / 32) % W < 2 ^ (p % 32) := by
  refine Nat.lt_of_le_of_lt (Nat.mod_le _ _) (Nat.div_lt_of_lt_mul ?_)
  rw [W_pow (p / 32) (p % 32), Nat.div_add_mod]; exact hv
 have hval := val_set qs (p / 32) ((valL qs / W ^ (p / 32) % W + 2 ^ (p % 32) : Nat) : Int) hp
 rw [hwd, Int.toNat_natCast, Int.toNat_natCast, Nat.mul_add, W_pow (p / 32) (p % 32), Nat.div_add_mod] at hval
 have hg : qs[p / 32]? = some ((valL qs / W ^ (p / 32) % W : Nat) : Int) := by rw [List.getElem?_eq_getElem hp, hwd]
 obtain ⟨h1, h2⟩ := or32l hlow (Nat.mod_lt _ (by decide))
 exact ⟨_, hg, h1, hu.set _ h2, by omega⟩
theorem set_high {qs : List Int} (hu : U32 qs) {i m : Nat} (hp : i / 32 < qs.length) (hv : valL qs = 2 ^ (i + 1) * m) :
  ∃ z : Nat, qs[i / 32]? = some (z : Int) ∧ IntKind.u32.wrap (((BitVec.ofInt IntKind.u32.bits (z : Int) ||| BitVec.ofInt IntKind.u32.bits (IntKind.u32.wrap (1 * 2 ^ (i % 32)))).toNat : Nat) : Int) = ((z + 2 ^ (i % 32) : Nat) : Int) ∧
   U32 (qs.set (i / 32) ((z + 2 ^ (i % 32) : Nat) : Int)) ∧ valL (qs.set (i / 32) ((z + 2 ^ (i % 32) : Nat) : Int)) = 2 ^ i * (2 * m + 1) := by
 have hk : i % 32 < 32 := Nat.mod_lt _ (by decide)
 have hwd := word_of hu hp
 have hz : valL qs / W ^ (i / 32) % W < 4294967296 := Nat.mod_lt _ W_pos
 have hlow : valL qs / W ^ (i / 32) % W % 2 ^ (i % 32 + 1) = 0 := low_zero (q := i / 32) (m := m) hk (by rw [Nat.div_add_mod]; exact hv)
 have hval := val_set qs (i / 32) ((valL qs / W ^ (i / 32) % W + 2 ^ (i % 32) : Nat) : Int) hp
 rw [hwd, Int.toNat_natCast, Int.toNat_natCast, Nat.mul_add, W_pow (i / 32) (i % 32), Nat.div_add_mod] at hval
 have hg : qs[i / 32]? = some ((valL qs / W ^ (i / 32) % W : Nat) : Int) := by rw [List.getElem?_eq_getElem hp, hwd]
 obtain ⟨h1, h2⟩ := or32 hz hk hlow
 refine ⟨_, hg, h1, hu.set _ h2, ?_⟩
 have : 2 ^ (i + 1) = 2 * 2 ^ i := by rw [Nat.pow_succ, Nat.mul_comm]
 have e : 2 ^ i * (2 * m + 1) = 2 ^ (i + 1) * m + 2 ^ i := by rw [this, Nat.mul_add, Nat.mul_one, ← Nat.mul_assoc, Nat.mul_comm (2 ^ i) 2]
 rw [e]; omega
def rlT (b : Bool) (x n L i : Nat) (out : List Int) : Task :=
 Task.at_ 102 0 [false, true, false, true, true] (sv 53 [(0, V.d (D.l b (ws x))), (1, V.d (D.i .i64 (n : Int))), (5, V.m 0 0 L), (6, V.d (D.i .i64 (i : Int)))]) [] [Ob.cells (cellsOf out) []]
theorem rshl_loop (b : Bool) (x n : Nat) (hx : Fits x) (hn : n ≤ 100000) (L : Nat) (hL : L = (limbs x).length + n / 32 + 1) : ∀ (d i : Nat) (out : List Int), i + d = 32 * (limbs x).length → U32 out → out.length = L → valL out = x % 2 ^ i * 2 ^ n →
  rk Tryz.prog pol (rlT b x n L i out) = some (.d (.l (nb (x * 2 ^ n)) (ws (x * 2 ^ n))), []) := by
 have lx := hx.len
 have hw0 : IntKind.i64.wrap (32 * ((limbs x).length : Int)) = ((32 * (limbs x).length : Nat) : Int) := by rw [wrap_i64] <;> omega
 intro d
 induction d with
 | zero =>
  intro i out hi hu hl hv
  have hxl : x < 2 ^ i := by rw [show i = 32 * (limbs x).length by omega, ← W_pow']; exact limbs_lt_len x
  rw [Nat.mod_eq_of_lt hxl] at hv
  have hc := normm_run out hu (by omega)
  rw [hl, hv, nl_ws] at hc
  unfold rlT
  rw [f40_at43, ws_len, hw0, st_f (by omega), st_call hc, unCons_c, unCells_c, beq_self_eq_true, st_ift, show (([] : Fl) == []) = true from rfl, st_ift, unNil_n, asD_d, asL_l, interp_ret]
 | succ d ih =>
  intro i out hi hu hl hv
  have hw1 : IntKind.i64.wrap ((i : Int) + 1) = ((i + 1 : Nat) : Int) := by rw [wrap_i64] <;> omega
  have hw2 : IntKind.i64.wrap ((i : Int) + (n : Int)) = ((i + n : Nat) : Int) := by rw [wrap_i64] <;> omega
  have hms : x % 2 ^ (i + 1) = x % 2 ^ i + 2 ^ i * (x / 2 ^ i % 2) := by rw [Nat.pow_succ, Nat.mod_mul]
  have hlow : x % 2 ^ i * 2 ^ n < 2 ^ (i + n) := by rw [Nat.pow_add]; exact Nat.mul_lt_mul_of_pos_right (Nat.mod_lt _ (Nat.pow_pos (by decide))) (Nat.pow_pos (by decide))
  unfold rlT at ih ⊢
  rw [f40_at43, ws_len, hw0, st_t (by omega), st_I (rbit_ws b x i (by omega))]
  rcases Nat.mod_two_eq_zero_or_one (x / 2 ^ i) with h | h
  ·rw [h, st_ne (by decide), interp_call_ret, f40_at1611, st_F, hw1, interp_call_ret]
   exact ih (i + 1) out (by omega) hu hl (by rw [hms, h, Nat.mul_zero, Nat.add_zero]; exact hv)
  ·have hq : (i + n) / 32 < out.length := by omega
   obtain ⟨z, z1, z2, z3, z4⟩ := set_low hu hq (by rw [hv]; exact hlow)
   have ht1 : ((i + n : Nat) : Int).tdiv 32 = (((i + n) / 32 : Nat) : Int) := tdiv_nat (i + n) 32
   have ht2 : ((i + n : Nat) : Int).tmod 32 = (((i + n) % 32 : Nat) : Int) := tmod_nat (i + n) 32
   have hw3 : IntKind.i64.wrap (((i + n) / 32 : Nat) : Int) = (((i + n) / 32 : Nat) : Int) := by rw [wrap_i64] <;> omega
   have hmin : min ((i + n) % 32) 32 = (i + n) % 32 := by omega
   have hb1 : (0 : Int) ≤ (((i + n) / 32 : Nat) : Int) ∧ (((i + n) / 32 : Nat) : Int) < (L : Int) := by omega
   have hb2 : 0 + (i + n) / 32 < (cellsOf out).length := by rw [cellsOf_len]; omega
   have hg : (cellsOf out)[0 + (i + n) / 32]? = some (V.d (D.i .u32 (z : Int))) := by rw [Nat.zero_add, cellsOf_get, z1]; rfl
   rw [h, st_eq (by decide), hw2, interp_call_ret, show decide (((i + n : Nat) : Int) ≥ 0) = true from decide_eq_true (by omega), f40_at1611, st_T, hw2, ht1, hw3, st_if hb1, Int.toNat_natCast, st_ob hg, asD_d, st_asI, ht2, st_if (by omega), st_if hb1, Bool.and_true, st_if hb2, Int.toNat_natCast, hmin, z2, hw1, Nat.zero_add, cells_set, interp_call_ret]
   exact ih (i + 1) _ (by omega) z3 (by simpa using hl) (by rw [z4, hv, hms, h, Nat.mul_one, Nat.add_mul, Nat.pow_add])
theorem rshl_ws (b : Bool) (x n : Nat) (hx : Fits x) (hn : n ≤ 100000) : rk Tryz.prog pol (Task.call 102 [V.d (D.l b (ws x)), V.d (D.i .i64 (n : Int))] []) = some (.d (.l (nb (x * 2 ^ n)) (ws (x * 2 ^ n))), []) := by
 have lx := hx.len
 have e1 : (if (0 : Int) > (n : Int) then 0 else (n : Int)) = (n : Int) := if_neg (by omega)
 have e2 : (n : Int).tdiv 32 = ((n / 32 : Nat) : Int) := tdiv_nat n 32
 have w1 : IntKind.i64.wrap ((n / 32 : Nat) : Int) = ((n / 32 : Nat) : Int) := by rw [wrap_i64] <;> omega
 have w2 : IntKind.i64.wrap (((limbs x).length : Int) + ((n / 32 : Nat) : Int)) = (((limbs x).length + n / 32 : Nat) : Int) := by rw [wrap_i64] <;> omega
 have w3 : IntKind.i64.wrap ((((limbs x).length + n / 32 : Nat) : Int) + 1) = (((limbs x).length + n / 32 + 1 : Nat) : Int) := by rw [wrap_i64] <;> omega
 have h := rshl_loop b x n hx hn _ rfl (32 * (limbs x).length) 0 (List.replicate ((limbs x).length + n / 32 + 1) 0) (by omega) (fun z hz => by rw [List.mem_replicate] at hz; omega) (by simp) (by rw [val_replicate, Nat.pow_zero, Nat.mod_one, Nat.zero_mul])
 unfold rlT at h
 rw [← cells_replicate, Int.natCast_zero] at h
 rw [f40, ws_len, e1, e2, w1, w2, w3, st_if (by omega), st_if rfl, st_if (by omega), Int.toNat_natCast, interp_call_ret]
 exact h
def rdT (bx by_ : Bool) (x y n : Nat) (br : Bool) (r : Nat) (i : Int) (fl : List (Nat × Nat)) (qs : List Int) : Task :=
 Task.at_ 107 0 [false, true, false, true, true, true, true] (sv 60 [(0, V.d (D.l bx (ws x))), (1, V.d (D.l by_ (ws y))), (7, V.m 0 0 n), (8, V.d (D.l br (ws r))), (9, V.d (D.i .i64 i))]) fl [Ob.cells (cellsOf qs) []]
theorem rdiv_step (bx by_ br : Bool) (x y n r i : Nat) (fl : List (Nat × Nat)) (hfl : fl = [(8, 1)] ∨ fl = []) (qs : List Int) (hy : Fits y) (hr : Fits r) (hr2 : Fits (r + r)) (hr3 : Fits (r + r + x / 2 ^ i % 2)) (hn : n = qs.length) (hi : i < 32 * n) (hn2 : n ≤ 100000) (hu : U32 qs) (m : Nat) (hv : valL qs = 2 ^ (i + 1) * m) :
  (r + r + x / 2 ^ i % 2 < y → rk Tryz.prog pol (rdT bx by_ x y n br r (i : Int) fl qs) = rk Tryz.prog pol (rdT bx by_ x y n (nb (r + r + x / 2 ^ i % 2)) (r + r + x / 2 ^ i % 2) ((i : Int) - 1) [] qs)) ∧
  (y ≤ r + r + x / 2 ^ i % 2 → ∃ qs', U32 qs' ∧ qs'.length = n ∧ valL qs' = 2 ^ i * (2 * m + 1) ∧ rk Tryz.prog pol (rdT bx by_ x y n br r (i : Int) fl qs) = rk Tryz.prog pol (rdT bx by_ x y n (nb (r + r + x / 2 ^ i % 2 - y)) (r + r + x / 2 ^ i % 2 - y) ((i : Int) - 1) [] qs')) := by
 have a1 := radd_ws br br r r hr hr
 have a2 := rbit_ws bx x i (by omega)
 have a3 := rof_ws (x / 2 ^ i % 2) (Nat.lt_trans (Nat.mod_lt _ (by decide)) (by decide))
 have a4 := radd_ws (nb (r + r)) (nb (x / 2 ^ i % 2)) (r + r) (x / 2 ^ i % 2) hr2 (fits_1.le (by omega))
 have a5 := rsub_ws (nb (r + r + x / 2 ^ i % 2)) by_ (r + r + x / 2 ^ i % 2) y hr3 hy
 have w1 : IntKind.i64.wrap ((i : Int) - 1) = (i : Int) - 1 := by rw [wrap_i64] <;> omega
 constructor
 ·intro h
  rw [if_pos h] at a5
  unfold rdT
  rcases hfl with rfl | rfl
  ·rw [f43_at175, st_t (by omega), st_L a1, st_I a2, st_L a3, st_L a4, st_LB a5, st_F, interp_call_ret, f43_at1839, w1, interp_call_ret]
  ·rw [f43_at175_1, st_t (by omega), st_L a1, st_I a2, st_L a3, st_L a4, st_LB a5, st_F, interp_call_ret, f43_at1839, w1, interp_call_ret]
 ·intro h
  rw [if_neg (by omega)] at a5
  have hq : i / 32 < qs.length := by omega
  obtain ⟨z, z1, z2, z3, z4⟩ := set_high hu hq hv
  have ht1 : (i : Int).tdiv 32 = ((i / 32 : Nat) : Int) := tdiv_nat i 32
  have ht2 : (i : Int).tmod 32 = ((i % 32 : Nat) : Int) := tmod_nat i 32
  have hw : IntKind.i64.wrap ((i / 32 : Nat) : Int) = ((i / 32 : Nat) : Int) := by rw [wrap_i64] <;> omega
  have hmin : min (i % 32) 32 = i % 32 := by omega
  have hb1 : (0 : Int) ≤ ((i / 32 : Nat) : Int) ∧ ((i / 32 : Nat) : Int) < (n : Int) := by omega
  have hb2 : 0 + i / 32 < (cellsOf qs).length := by rw [cellsOf_len]; omega
  have hg : (cellsOf qs)[0 + i / 32]? = some (V.d (D.i .u32 (z : Int))) := by rw [Nat.zero_add, cellsOf_get, z1]; rfl
  refine ⟨_, z3, by simp [hn], z4, ?_⟩
  unfold rdT
  rcases hfl with rfl | rfl
  ·rw [f43_at175, st_t (by omega), st_L a1, st_I a2, st_L a3, st_L a4, st_LB a5, st_T, ht1, hw, st_if hb1, Int.toNat_natCast, st_ob hg, asD_d, st_asI, ht2, st_if (by omega), st_if hb1, Bool.and_true, st_if hb2, Int.toNat_natCast, hmin, z2, Nat.zero_add, cells_set, interp_call_ret, f43_at1839, w1, interp_call_ret]
  ·rw [f43_at175_1, st_t (by omega), st_L a1, st_I a2, st_L a3, st_L a4, st_LB a5, st_T, ht1, hw, st_if hb1, Int.toNat_natCast, st_ob hg, asD_d, st_asI, ht2, st_if (by omega), st_if hb1, Bool.and_true, st_if hb2, Int.toNat_natCast, hmin, z2, Nat.zero_add, cells_set, interp_call_ret, f43_at1839, w1, interp_call_ret]
theorem rdiv_loop (bx by_ : Bool) (x y : Nat) (hx : Fits x) (hy : Fits (y * 2)) (hy0 : 0 < y) (n : Nat) (hnl : n = (limbs x).length + 1) : ∀ (i : Nat) (fl : List (Nat × Nat)) (r : Nat) (qs : List Int), (fl = [(8, 1)] ∨ fl = []) → i ≤ 32 * (limbs x).length → r = x / 2 ^ i % y → valL qs = 2 ^ i * (x / 2 ^ i / y) → U32 qs → qs.length = n →
  rk Tryz.prog pol (rdT bx by_ x y n (nb r) r ((i : Int) - 1) fl qs) = some (.t [.d (.l (nb (x / y)) (ws (x / y))), .d (.l (nb (x % y)) (ws (x % y))), .d (.b true)], []) := by
 have lx := hx.len
 intro i
 induction i with
 | zero =>
  intro fl r qs hfl hi hr hv hu hl
  rw [Nat.pow_zero, Nat.div_one] at hr
  rw [Nat.pow_zero, Nat.div_one, Nat.one_mul] at hv
  have hc := normm_run qs hu (by omega)
  rw [hl, hv, nl_ws] at hc
  unfold rdT
  rw [hr]
  rcases hfl with rfl | rfl
  ·rw [f43_at175, st_f (by omega), st_call hc, unCons_c, unCells_c, beq_self_eq_true, st_ift, show (([] : Fl) == []) = true from rfl, st_ift, unNil_n, asD_d, asL_l, interp_ret]
  ·rw [f43_at175_1, st_f (by omega), st_call hc, unCons_c, unCells_c, beq_self_eq_true, st_ift, show (([] : Fl) == []) = true from rfl, st_ift, unNil_n, asD_d, asL_l, interp_ret]
 | succ i ih =>
  intro fl r qs hfl hi hr hv hu hl
  have hry : r < y := by rw [hr]; exact Nat.mod_lt _ hy0
  have e : (((i + 1 : Nat) : Int) - 1) = (i : Int) := by omega
  have hb := Nat.mod_two_eq_zero_or_one (x / 2 ^ i)
  have fr : Fits r := hy.le (by omega)
  have fr2 : Fits (r + r) := hy.le (by omega)
  have fr1 : Fits (r + r + x / 2 ^ i % 2) := hy.le (by omega)
  have hX : x / 2 ^ i = 2 * (x / 2 ^ (i + 1)) + x / 2 ^ i % 2 := by
   rw [Nat.pow_succ, ← Nat.div_div_eq_div_mul]
   have := Nat.div_add_mod (x / 2 ^ i) 2
   omega
  have hdm := Nat.div_add_mod (x / 2 ^ (i + 1)) y
  rw [← hr] at hdm
  have hXY : x / 2 ^ i = y * (2 * (x / 2 ^ (i + 1) / y)) + (r + r + x / 2 ^ i % 2) := by
   have : y * (2 * (x / 2 ^ (i + 1) / y)) = 2 * (y * (x / 2 ^ (i + 1) / y)) := by rw [Nat.mul_left_comm]
   omega
  rw [e]
  have hm := rdiv_step bx by_ (nb r) x y n r i fl hfl qs (hy.le (by omega)) fr fr2 fr1 hl.symm (by omega) (by omega) hu (x / 2 ^ (i + 1) / y) hv
  by_cases hlt : r + r + x / 2 ^ i % 2 < y
  ·rw [hm.1 hlt]
   have hq : x / 2 ^ i / y = 2 * (x / 2 ^ (i + 1) / y) := by
    conv => lhs; rw [hXY]
    rw [Nat.mul_add_div hy0, Nat.div_eq_of_lt hlt, Nat.add_zero]
   have hrr : x / 2 ^ i % y = r + r + x / 2 ^ i % 2 := by
    conv => lhs; rw [hXY]
    rw [Nat.mul_add_mod, Nat.mod_eq_of_lt hlt]
   refine ih [] _ qs (Or.inr rfl) (by omega) hrr.symm ?_ hu hl
   rw [hv, hq, Nat.pow_succ, Nat.mul_assoc]
  ·obtain ⟨qs', u1, u2, u3, u4⟩ := hm.2 (by omega)
   rw [u4]
   have hq : x / 2 ^ i / y = 2 * (x / 2 ^ (i + 1) / y) + 1 := by
    conv => lhs; rw [hXY]
    have hd1 : (r + r + x / 2 ^ i % 2) / y = 1 := Nat.div_eq_of_lt_le (by omega) (by omega)
    rw [Nat.mul_add_div hy0, hd1]
   have hrr : x / 2 ^ i % y = r + r + x / 2 ^ i % 2 - y := by
    conv => lhs; rw [hXY]
    rw [Nat.mul_add_mod, Nat.mod_eq_sub_mod (by omega), Nat.mod_eq_of_lt (by omega)]
   refine ih [] _ qs' (Or.inr rfl) (by omega) hrr.symm ?_ u1 u2
   rw [u3, hq]
theorem rdiv_ws (b c : Bool) (x y : Nat) (hx : Fits x) (hy : Fits (y * 2)) (hy0 : 0 < y) : rk Tryz.prog pol (Task.call 107 [V.d (D.l b (ws x)), V.d (D.l c (ws y))] []) = some (.t [.d (.l (nb (x / y)) (ws (x / y))), .d (.l (nb (x % y)) (ws (x % y))), .d (.b true)], []) := by
 have lx := hx.len
 have hyl : (limbs y).length ≠ 0 := fun e => by
  have := (limbs_nil_iff y).1 (List.length_eq_zero_iff.1 e); omega
 have w1 : IntKind.i64.wrap (((limbs x).length : Int) + 1) = (((limbs x).length + 1 : Nat) : Int) := by rw [wrap_i64] <;> omega
 have w2 : IntKind.i64.wrap (32 * ((limbs x).length : Int)) = ((32 * (limbs x).length : Nat) : Int) := by rw [wrap_i64] <;> omega
 have w3 : IntKind.i64.wrap (((32 * (limbs x).length : Nat) : Int) - 1) = ((32 * (limbs x).length : Nat) : Int) - 1 := by rw [wrap_i64] <;> omega
 have hx0 : x / 2 ^ (32 * (limbs x).length) = 0 := Nat.div_eq_of_lt (by rw [← W_pow']; exact limbs_lt_len x)
 have h := rdiv_loop b c x y hx hy hy0 _ rfl (32 * (limbs x).length) [(8, 1)] 0 (List.replicate ((limbs x).length + 1) 0) (Or.inl rfl) (Nat.le_refl _) (by rw [hx0, Nat.zero_mod]) (by rw [hx0, Nat.zero_div, Nat.mul_zero, val_replicate]) (fun z hz => by rw [List.mem_replicate] at hz; omega) (by simp)
 unfold rdT at h
 rw [← cells_replicate, ws_zero] at h
 rw [f43, st_L (rnorm_ws c y (hy.le (by omega))), ws_len, ws_len, st_ne (by omega), w1, w2, w3, st_if (by omega), st_if rfl, st_if (by omega), Int.toNat_natCast, interp_call_ret]
 exact h
end Go.Dn.Dec
namespace Go.Dn.Dec
set_option exponentiation.threshold 5000000
def U : Nat := 2 ^ 1074
def E : Nat := 18014398509481983
theorem E_eq : E + 1 = 2 * 2 ^ 53 := by decide
theorem U_pos : 0 < U := Nat.pow_pos (by decide)
theorem ac1 (a b c d : Nat) : a * (b * c) * d = a * (d * b) * c := by ac_rfl
theorem ac4 (a b c : Nat) : a * b * c * 2 = a * (b * 2 * c) := by ac_rfl
theorem pow_pred {k : Nat} (h : 0 < k) : 2 ^ k = 2 ^ (k - 1) * 2 := by rw [← Nat.pow_succ, Nat.succ_eq_add_one, Nat.sub_add_cancel h]
theorem ac2 (a b c : Nat) : a * b * c = a * c * b := by ac_rfl
theorem ac3 (x a b : Nat) : 2 * x * (a * b) = 2 * (x * a) * b := by ac_rfl
theorem U_split {k : Nat} (h : k ≤ 1074) : U = 2 ^ (1074 - k) * 2 ^ k := by rw [← Nat.pow_add, Nat.sub_add_cancel h]; rfl
theorem U_join {k : Nat} (h : 1074 ≤ k) : 2 ^ k = 2 ^ (k - 1074) * U := by unfold U; rw [← Nat.pow_add, Nat.sub_add_cancel h]
def gr (v : Nat) : Nat := if v < 2 ^ 52 then v else (v % 2 ^ 52 + 2 ^ 52) * 2 ^ (v / 2 ^ 52 - 1)
theorem gr_of (k q : Nat) (hq : q ≤ 2 ^ 53) (h : k = 0 ∨ 2 ^ 52 ≤ q) : gr (k * 2 ^ 52 + q) = q * 2 ^ k := by
 unfold gr
 by_cases h0 : q < 2 ^ 52
 ·have hk : k = 0 := by omega
  subst hk
  rw [if_pos (by omega)]; omega
 ·rw [if_neg (by omega)]
  by_cases h1 : q < 2 ^ 53
  ·have e1 : (k * 2 ^ 52 + q) % 2 ^ 52 + 2 ^ 52 = q := by omega
   have e2 : (k * 2 ^ 52 + q) / 2 ^ 52 - 1 = k := by omega
   rw [e1, e2]
  ·have e1 : (k * 2 ^ 52 + q) % 2 ^ 52 + 2 ^ 52 = 2 ^ 52 := by omega
   have e2 : (k * 2 ^ 52 + q) / 2 ^ 52 - 1 = k + 1 := by omega
   have e3 : q = 2 ^ 52 * 2 := by omega
   rw [e1, e2, e3, Nat.pow_succ 2 k, Nat.mul_comm (2 ^ k) 2, Nat.mul_assoc]
theorem gr_split (v : Nat) : ∃ k q, q < 2 ^ 53 ∧ (k = 0 ∨ 2 ^ 52 ≤ q) ∧ v = k * 2 ^ 52 + q := by
 by_cases h : v < 2 ^ 52
 ·exact ⟨0, v, by omega, Or.inl rfl, by omega⟩
 ·exact ⟨v / 2 ^ 52 - 1, v % 2 ^ 52 + 2 ^ 52, by omega, Or.inr (by omega), by omega⟩
theorem gr_next (k q : Nat) (hq : q < 2 ^ 53) (h : k = 0 ∨ 2 ^ 52 ≤ q) : gr (k * 2 ^ 52 + q + 1) = (q + 1) * 2 ^ k := by
 rw [Nat.add_assoc]; exact gr_of k (q + 1) (by omega) (by omega)
theorem gr_lt (v : Nat) : gr v < gr (v + 1) := by
 obtain ⟨k, q, h1, h2, rfl⟩ := gr_split v
 rw [gr_of k q (by omega) h2, gr_next k q h1 h2]
 exact Nat.mul_lt_mul_of_pos_right (by omega) (Nat.pow_pos (by decide))
theorem gr_mono {v w : Nat} (h : v ≤ w) : gr v ≤ gr w := by
 induction h with
 | refl => exact Nat.le_refl _
 | step _ ih => exact Nat.le_trans ih (Nat.le_of_lt (gr_lt _))
theorem gr_lt_of {v w : Nat} (h : v < w) : gr v < gr w := Nat.lt_of_lt_of_le (gr_lt v) (gr_mono h)
def mid (v : Nat) : Nat := gr v + gr (v + 1)
theorem mid_mono {v w : Nat} (h : v ≤ w) : mid v ≤ mid w := by
 unfold mid
 have := gr_mono h
 have := gr_mono (show v + 1 ≤ w + 1 by omega)
 omega
theorem mid_lt_of {v w : Nat} (h : v < w) : mid v < mid w := by
 unfold mid
 have := gr_lt_of h
 have := gr_lt_of (show v + 1 < w + 1 by omega)
 omega
def Near (x y v : Nat) : Prop :=
 (2 * x * U < mid v * y ∨ (2 * x * U = mid v * y ∧ v % 2 = 0)) ∧ (v = 0 ∨ mid (v - 1) * y < 2 * x * U ∨ (mid (v - 1) * y = 2 * x * U ∧ v % 2 = 0))
theorem near_mono {x y v x' y' v' : Nat} (h : Near x y v) (h' : Near x' y' v') (hy : 0 < y) (hy' : 0 < y') (hle : x * y' ≤ x' * y) : v ≤ v' := by
 rcases Nat.lt_or_ge v' v with hlt | hge
 ·exfalso
  have hm : mid v' ≤ mid (v - 1) := mid_mono (by omega)
  obtain ⟨-, hl⟩ := h
  obtain ⟨hu, -⟩ := h'
  have e1 : 2 * x * U * y' ≤ 2 * x' * U * y := by
   have := Nat.mul_le_mul_left (2 * U) hle
   have a1 : 2 * x * U * y' = 2 * U * (x * y') := by ac_rfl
   have a2 : 2 * x' * U * y = 2 * U * (x' * y) := by ac_rfl
   omega
  have e2 : mid v' * y' * y ≤ mid (v - 1) * y * y' := by
   have := Nat.mul_le_mul_right (y' * y) hm
   have a1 : mid v' * y' * y = mid v' * (y' * y) := by ac_rfl
   have a2 : mid (v - 1) * y * y' = mid (v - 1) * (y' * y) := by ac_rfl
   omega
  have l0 : mid (v - 1) * y ≤ 2 * x * U := by omega
  have u0 : 2 * x' * U ≤ mid v' * y' := by omega
  have l1 := Nat.mul_le_mul_right y' l0
  have u1 := Nat.mul_le_mul_right y u0
  have k1 : mid (v - 1) * y = 2 * x * U := Nat.eq_of_mul_eq_mul_right hy' (by omega)
  have k2 : 2 * x' * U = mid v' * y' := Nat.eq_of_mul_eq_mul_right hy (by omega)
  have k3 : mid v' = mid (v - 1) := by
   have a1 : mid v' * y' * y = mid v' * (y' * y) := by ac_rfl
   have a2 : mid (v - 1) * y * y' = mid (v - 1) * (y' * y) := by ac_rfl
   exact Nat.eq_of_mul_eq_mul_right (Nat.mul_pos hy' hy) (by omega)
  have k4 : v' = v - 1 := by
   rcases Nat.lt_or_ge v' (v - 1) with h3 | h3
   ·have := mid_lt_of h3; omega
   ·omega
  omega
 ·exact hge
theorem near_eq {x y v x' y' v' : Nat} (h : Near x y v) (h' : Near x' y' v') (hy : 0 < y) (hy' : 0 < y') (he : x * y' = x' * y) : v = v' :=
 Nat.le_antisymm (near_mono h h' hy hy' (Nat.le_of_eq he)) (near_mono h' h hy' hy (Nat.le_of_eq he.symm))
theorem nearN_up (x y : Nat) (hy : 0 < y) : 2 * x < (2 * nearN x y + 1) * y ∨ (2 * x = (2 * nearN x y + 1) * y ∧ nearN x y % 2 = 0) := by
 have hd := Nat.div_add_mod x y
 have hr : x % y < y := Nat.mod_lt _ hy
 unfold nearN
 generalize x / y = q at *
 generalize x % y = r at *
 have e1 : (2 * (q + 1) + 1) * y = 2 * (y * q) + 3 * y := by rw [Nat.add_mul, Nat.mul_assoc, Nat.add_mul, Nat.mul_comm q y]; omega
 have e2 : (2 * q + 1) * y = 2 * (y * q) + y := by rw [Nat.add_mul, Nat.mul_assoc, Nat.mul_comm q y]; omega
 split
 ·rw [e1]; omega
 ·rw [e2]; omega
theorem nearN_low (x y : Nat) (hy : 0 < y) : 2 * nearN x y * y < 2 * x + y ∨ (2 * nearN x y * y = 2 * x + y ∧ nearN x y % 2 = 0) := by
 have hd := Nat.div_add_mod x y
 have hr : x % y < y := Nat.mod_lt _ hy
 unfold nearN
 generalize x / y = q at *
 generalize x % y = r at *
 have e1 : 2 * (q + 1) * y = 2 * (y * q) + 2 * y := by rw [Nat.mul_assoc, Nat.add_mul, Nat.mul_comm q y]; omega
 have e2 : 2 * q * y = 2 * (y * q) := by rw [Nat.mul_assoc, Nat.mul_comm q y]
 split
 ·rw [e1]; omega
 ·rw [e2]; omega
theorem nearAt_up (x y k : Nat) (hy : 0 < y) : 2 * x * U < (2 * nearAt x y ((k : Int) - 1074) + 1) * 2 ^ k * y ∨ (2 * x * U = (2 * nearAt x y ((k : Int) - 1074) + 1) * 2 ^ k * y ∧ nearAt x y ((k : Int) - 1074) % 2 = 0) := by
 unfold nearAt
 by_cases h : (k : Int) - 1074 < 0
 ·rw [if_pos h, show (-((k : Int) - 1074)).toNat = 1074 - k by omega]
  have h1 := nearN_up (x * 2 ^ (1074 - k)) y hy
  have e := U_split (k := k) (by omega)
  generalize nearN (x * 2 ^ (1074 - k)) y = q at *
  have e1 : 2 * x * U = 2 * (x * 2 ^ (1074 - k)) * 2 ^ k := by rw [e]; exact ac3 _ _ _
  have e2 : (2 * q + 1) * 2 ^ k * y = (2 * q + 1) * y * 2 ^ k := ac2 _ _ _
  rw [e1, e2]
  exact h1.imp (fun h => Nat.mul_lt_mul_of_pos_right h (Nat.pow_pos (by decide))) (fun h => ⟨by rw [h.1], h.2⟩)
 ·rw [if_neg h, show ((k : Int) - 1074).toNat = k - 1074 by omega]
  have h1 := nearN_up x (y * 2 ^ (k - 1074)) (Nat.mul_pos hy (Nat.pow_pos (by decide)))
  have e := U_join (k := k) (by omega)
  generalize nearN x (y * 2 ^ (k - 1074)) = q at *
  have e2 : (2 * q + 1) * 2 ^ k * y = (2 * q + 1) * (y * 2 ^ (k - 1074)) * U := by rw [e]; exact ac1 _ _ _ _
  rw [e2]
  exact h1.imp (fun h => Nat.mul_lt_mul_of_pos_right h U_pos) (fun h => ⟨by rw [h.1], h.2⟩)
theorem nearAt_low (x y k : Nat) (hy : 0 < y) : 2 * nearAt x y ((k : Int) - 1074) * 2 ^ k * y < 2 * x * U + 2 ^ k * y ∨ (2 * nearAt x y ((k : Int) - 1074) * 2 ^ k * y = 2 * x * U + 2 ^ k * y ∧ nearAt x y ((k : Int) - 1074) % 2 = 0) := by
 unfold nearAt
 by_cases h : (k : Int) - 1074 < 0
 ·rw [if_pos h, show (-((k : Int) - 1074)).toNat = 1074 - k by omega]
  have h1 := nearN_low (x * 2 ^ (1074 - k)) y hy
  have e := U_split (k := k) (by omega)
  generalize nearN (x * 2 ^ (1074 - k)) y = q at *
  have e1 : 2 * x * U + 2 ^ k * y = (2 * (x * 2 ^ (1074 - k)) + y) * 2 ^ k := by rw [e, Nat.add_mul, ac3, Nat.mul_comm y]
  have e2 : 2 * q * 2 ^ k * y = 2 * q * y * 2 ^ k := ac2 _ _ _
  rw [e1, e2]
  exact h1.imp (fun h => Nat.mul_lt_mul_of_pos_right h (Nat.pow_pos (by decide))) (fun h => ⟨by rw [h.1], h.2⟩)
 ·rw [if_neg h, show ((k : Int) - 1074).toNat = k - 1074 by omega]
  have h1 := nearN_low x (y * 2 ^ (k - 1074)) (Nat.mul_pos hy (Nat.pow_pos (by decide)))
  have e := U_join (k := k) (by omega)
  generalize nearN x (y * 2 ^ (k - 1074)) = q at *
  have e1 : 2 * x * U + 2 ^ k * y = (2 * x + y * 2 ^ (k - 1074)) * U := by rw [e, Nat.add_mul, ac2 _ U y, Nat.mul_comm y]
  have e2 : 2 * q * 2 ^ k * y = 2 * q * (y * 2 ^ (k - 1074)) * U := by rw [e]; exact ac1 _ _ _ _
  rw [e1, e2]
  exact h1.imp (fun h => Nat.mul_lt_mul_of_pos_right h U_pos) (fun h => ⟨by rw [h.1], h.2⟩)
theorem mid_at (k q : Nat) (hq : q < 2 ^ 53) (h : k = 0 ∨ 2 ^ 52 ≤ q) : mid (k * 2 ^ 52 + q) = (2 * q + 1) * 2 ^ k := by
 rw [mid, gr_of k q (by omega) h, gr_next k q hq h, ← Nat.add_mul, show q + (q + 1) = 2 * q + 1 by omega]
theorem mid_under (k q : Nat) (hq : q < 2 ^ 53) (h0 : 0 < q) (h : k = 0 ∨ 2 ^ 52 < q) : mid (k * 2 ^ 52 + q - 1) = (2 * q - 1) * 2 ^ k := by
 have e : k * 2 ^ 52 + q - 1 = k * 2 ^ 52 + (q - 1) := by omega
 rw [e, mid_at k (q - 1) (by omega) (by omega), show 2 * (q - 1) + 1 = 2 * q - 1 by omega]
theorem mid_edge (k : Nat) (hk : 0 < k) : mid (k * 2 ^ 52 + 2 ^ 52 - 1) = E * 2 ^ (k - 1) := by
 have hE := E_eq
 obtain ⟨q, hq⟩ : ∃ q, q + 1 = 2 ^ 53 := ⟨2 ^ 53 - 1, by omega⟩
 have e : k * 2 ^ 52 + 2 ^ 52 - 1 = (k - 1) * 2 ^ 52 + q := by omega
 rw [e, mid_at (k - 1) q (by omega) (by omega), show 2 * q + 1 = E by omega]
theorem near_found1 (q X A y k : Nat) (hp : 0 < A * y) (hu : X < (2 * q + 1) * A * y ∨ (X = (2 * q + 1) * A * y ∧ q % 2 = 0)) (B : Nat) (hB : 0 < k → A = B * 2)
  (hlow : k = 0 ∨ E * B * y ≤ X) : k = 0 ∨ 4503599627370496 ≤ q := by
 have hE := E_eq
 rcases hlow with h | h
 ·exact Or.inl h
 ·rcases Nat.eq_zero_or_pos k with h0 | h0
  ·exact Or.inl h0
  ·right
   have e : E * B * y * 2 = E * (A * y) := by rw [hB h0]; exact ac4 _ _ _
   have h1 : X ≤ (2 * q + 1) * (A * y) := by rw [← Nat.mul_assoc]; omega
   have h2 : E * (A * y) ≤ (2 * (2 * q + 1)) * (A * y) := by rw [Nat.mul_assoc 2 (2 * q + 1)]; omega
   have h3 := Nat.le_of_mul_le_mul_right h2 hp
   omega
theorem near_found2 (q X A y : Nat) (hq : 0 < q) (hl : 2 * q * A * y < X + A * y ∨ (2 * q * A * y = X + A * y ∧ q % 2 = 0)) : (2 * q - 1) * A * y < X ∨ ((2 * q - 1) * A * y = X ∧ q % 2 = 0) := by
 have e2 : (2 * q - 1) * A * y + A * y = 2 * q * A * y := by
  rw [Nat.mul_assoc, Nat.mul_assoc (2 * q), ← Nat.succ_mul, show (2 * q - 1).succ = 2 * q by omega]
 rcases hl with h | h
 ·left; omega
 ·right; exact ⟨by omega, h.2⟩
theorem near_found (x y k : Nat) (hy : 0 < y) (hq : nearAt x y ((k : Int) - 1074) < 2 ^ 53) (hlow : k = 0 ∨ E * 2 ^ (k - 1) * y ≤ 2 * x * U) :
  Near x y (k * 2 ^ 52 + nearAt x y ((k : Int) - 1074)) ∧ (k = 0 ∨ 2 ^ 52 ≤ nearAt x y ((k : Int) - 1074)) := by
 have hu := nearAt_up x y k hy
 have hl := nearAt_low x y k hy
 generalize nearAt x y ((k : Int) - 1074) = q at *
 have hp : 0 < 2 ^ k * y := Nat.mul_pos (Nat.pow_pos (by decide)) hy
 have h52 : k = 0 ∨ 2 ^ 52 ≤ q := near_found1 q _ _ y k hp hu (2 ^ (k - 1)) pow_pred hlow
 refine ⟨⟨?_, ?_⟩, h52⟩
 ·rw [mid_at k q hq h52]
  refine hu.imp id fun h => ⟨h.1, ?_⟩
  omega
 ·by_cases h0 : k * 2 ^ 52 + q = 0
  ·exact Or.inl h0
  ·right
   by_cases hb : k = 0 ∨ 2 ^ 52 < q
   ·rw [mid_under k q hq (by omega) hb]
    exact (near_found2 q _ _ y (by omega) hl).imp id fun h => ⟨h.1, by omega⟩
   ·have hk : 0 < k := by omega
    have hq2 : q = 2 ^ 52 := by omega
    have hev : (k * 2 ^ 52 + q) % 2 = 0 := by omega
    rw [hq2, mid_edge k hk]
    rw [hq2] at hev
    rcases hlow with h | h
    ·omega
    ·exact (Nat.lt_or_eq_of_le h).imp id fun h1 => ⟨h1, hev⟩
theorem low_of_big (x y k : Nat) (hy : 0 < y) (hq : 2 ^ 53 ≤ nearAt x y ((k : Int) - 1074)) : E * 2 ^ k * y ≤ 2 * x * U := by
 have hl := nearAt_low x y k hy
 have hE := E_eq
 generalize nearAt x y ((k : Int) - 1074) = q at *
 have h1 : E * 2 ^ k * y + 2 ^ k * y = (E + 1) * 2 ^ k * y := by rw [Nat.mul_assoc, Nat.mul_assoc (E + 1), Nat.succ_mul]
 have h2 : (E + 1) * 2 ^ k * y ≤ 2 * q * 2 ^ k * y := Nat.mul_le_mul_right _ (Nat.mul_le_mul_right _ (by omega))
 omega
theorem low_of_first (x y k : Nat) (hx : x ≠ 0) (hk : 0 < k) (h : (k : Int) - 1074 = (blen x : Int) - blen y - 53) : E * 2 ^ (k - 1) * y ≤ 2 * x * U := by
 have hx1 := blen_le x hx
 have hy1 := lt_blen y
 have bx := blen_pos hx
 have hE := E_eq
 have h1 : 2 ^ 54 * 2 ^ (k - 1) * 2 ^ blen y = 2 * 2 ^ (blen x - 1) * U := by
  unfold U
  rw [← Nat.pow_add, ← Nat.pow_add, Nat.mul_comm 2 (2 ^ (blen x - 1)), ← Nat.pow_succ, ← Nat.pow_add]
  congr 1
  omega
 have h2 : E * 2 ^ (k - 1) * y ≤ 2 ^ 54 * 2 ^ (k - 1) * 2 ^ blen y := Nat.mul_le_mul (Nat.mul_le_mul_right _ (by omega)) (Nat.le_of_lt hy1)
 have h3 : 2 * 2 ^ (blen x - 1) * U ≤ 2 * x * U := Nat.mul_le_mul_right _ (Nat.mul_le_mul_left _ hx1)
 omega
def finN (v : Nat) : Nat × Bool := if v < 2047 * 2 ^ 52 then (v, true) else (0, false)
theorem joined_fin (k q : Nat) (hq : q < 2 ^ 53) (h : k = 0 ∨ 2 ^ 52 ≤ q) : joinedN q ((k : Int) - 1074) = finN (k * 2 ^ 52 + q) := by
 unfold joinedN finN
 by_cases h1 : q < 2 ^ 52
 ·rw [if_pos h1, if_pos (by omega)]
  have : k = 0 := by omega
  subst this; simp
 ·rw [if_neg h1]
  by_cases h2 : 971 < (k : Int) - 1074
  ·rw [if_pos h2, if_neg (by omega)]
  ·rw [if_neg h2, if_pos (by omega)]
   rw [show ((k : Int) - 1074 + 1075).toNat = k + 1 by omega, show (k + 1) * 2 ^ 52 + (q - 2 ^ 52) = k * 2 ^ 52 + q by omega]
theorem bitsN_near (x y : Nat) (hy : 0 < y) : ∃ v, Near x y v ∧ bitsN x y = finN v := by
 by_cases h0 : x = 0
 ·refine ⟨0, ⟨Or.inl ?_, Or.inl rfl⟩, ?_⟩
  ·subst h0
   rw [Nat.mul_zero, Nat.zero_mul]
   exact Nat.mul_pos (by decide) hy
  ·rw [bitsN, if_pos h0]; decide
 ·have hf : -1074 ≤ firstE x y := Int.le_max_right ..
  have key : ∀ k : Nat, nearAt x y ((k : Int) - 1074) < 2 ^ 53 → (k = 0 ∨ E * 2 ^ (k - 1) * y ≤ 2 * x * U) → ∃ v, Near x y v ∧ joinedN (nearAt x y ((k : Int) - 1074)) ((k : Int) - 1074) = finN v := by
   intro k hq hl
   obtain ⟨h1, h2⟩ := near_found x y k hy hq hl
   exact ⟨_, h1, joined_fin k _ hq h2⟩
  obtain ⟨k, hk⟩ : ∃ k : Nat, firstE x y = (k : Int) - 1074 := ⟨(firstE x y + 1074).toNat, by omega⟩
  have e1 : (k : Int) - 1074 + 1 = ((k + 1 : Nat) : Int) - 1074 := by omega
  have e2 : (k : Int) - 1074 + 2 = ((k + 2 : Nat) : Int) - 1074 := by omega
  have h3 := third x y h0 hy
  rw [bitsN, if_neg h0]
  rw [hk] at h3 ⊢
  rw [e2] at h3 ⊢
  rw [e1]
  split
  ·rename_i hb
   refine key k ((blen_le_iff _ _).1 hb) ?_
   rcases Nat.eq_zero_or_pos k with h | h
   ·exact Or.inl h
   ·exact Or.inr (low_of_first x y k h0 h (by unfold firstE at hk; omega))
  ·rename_i hb
   split
   ·rename_i hb1
    refine key (k + 1) ((blen_le_iff _ _).1 hb1) (Or.inr ?_)
    exact low_of_big x y k hy (by have := mt (blen_le_iff _ _).2 hb; omega)
   ·rename_i hb1
    refine key (k + 2) (by omega) (Or.inr ?_)
    exact low_of_big x y (k + 1) hy (by have := mt (blen_le_iff _ _).2 hb1; omega)
end Go.Dn.Dec
namespace Go.Dn.Dec
open Go.Proofs
set_option exponentiation.threshold 5000000
section
variable {f : Task → Option Out}
theorem st_LLB {t : Task} {b c z : Bool} {l m : List D} {e e' e'' : V} {K : Bool → List D → Bool → List D → Bool → Tr} (h : f t = some (.t [.d (.l b l), .d (.l c m), .d (.b z)], [])) :
  interp f (.call t fun o => ift o.snd.isEmpty (unT o.fst fun l => ift (l.length == 3) (asD (l.getD 0 e) fun d => asL d fun x y => asD (l.getD 1 e') fun d' => asL d' fun u v => asD (l.getD 2 e'') fun d'' => asB d'' fun w => K x y u v w))) = interp f (K b l c m z) := st_call h
end
theorem packed7 (q : Nat) (e : Int) (hq : q < 2 ^ 53) (he1 : -1074 ≤ e) (he2 : e ≤ 1000000) :
  rk Tryz.prog pol (Task.at_ 215 0 [true, true] (sv 24 [(0, V.d (D.i .u64 (q : Int))), (1, V.d (D.i .i64 e))]) [] []) = some (.t [.d (.i .u64 ((joinedN q e).1 : Nat)), .d (.b (joinedN q e).2)], []) := by
 rw [f60_at7]
 unfold joinedN
 by_cases h : q < 2 ^ 52
 ·rw [st_t (by omega), interp_ret, if_pos h]
 ·rw [st_f (by omega), if_neg h]
  by_cases h2 : e > 971
  ·rw [st_t h2, interp_ret, if_pos h2]; rfl
  ·have hw1 : IntKind.i64.wrap (e + 1075) = ((e + 1075).toNat : Int) := by rw [wrap_i64] <;> omega
   have hE : (e + 1075).toNat ≤ 2046 := by omega
   rw [st_f h2, if_neg (show ¬ 971 < e from h2), hw1, interp_ret]
   generalize (e + 1075).toNat = F at hE ⊢
   have hw2 : IntKind.u64.wrap (F : Int) = (F : Int) := by rw [u64_wrap]; omega
   have hw3 : IntKind.u64.wrap ((F : Int) * 4503599627370496) = ((F * 2 ^ 52 : Nat) : Int) := by rw [u64_wrap]; omega
   have hw4 : IntKind.u64.wrap ((q : Int) - 4503599627370496) = ((q - 2 ^ 52 : Nat) : Int) := by rw [u64_wrap]; omega
   have hor : (BitVec.ofInt IntKind.u64.bits ((F * 2 ^ 52 : Nat) : Int) ||| BitVec.ofInt IntKind.u64.bits ((q - 2 ^ 52 : Nat) : Int)).toNat = F * 2 ^ 52 + (q - 2 ^ 52) := by
    have := or_nat (a := F * 2 ^ 52) (b := q - 2 ^ 52) (by omega) (by omega)
    rw [or_mul (by omega)] at this
    exact this
   have hw5 : IntKind.u64.wrap ((F * 2 ^ 52 + (q - 2 ^ 52) : Nat) : Int) = ((F * 2 ^ 52 + (q - 2 ^ 52) : Nat) : Int) := by rw [u64_wrap]; omega
   rw [hw2, hw3, hw4, hor, hw5]
theorem packed_s (q k : Nat) (hq : q ≤ 2 ^ 53) (hk : k ≤ 900000) (h : k = 0 ∨ 2 ^ 52 ≤ q) :
  rk Tryz.prog pol (Task.call 215 [V.d (D.i .u64 (q : Int)), V.d (D.i .i64 ((k : Int) - 1074))] []) = some (.t [.d (.i .u64 ((finN (k * 2 ^ 52 + q)).1 : Nat)), .d (.b (finN (k * 2 ^ 52 + q)).2)], []) := by
 rw [f60]
 by_cases hq1 : q = 2 ^ 53
 ·have e1 : (q : Int).tdiv 2 = ((q / 2 : Nat) : Int) := tdiv_nat q 2
  have e2 : IntKind.u64.wrap ((q / 2 : Nat) : Int) = ((2 ^ 52 : Nat) : Int) := by rw [u64_wrap]; omega
  have e3 : IntKind.i64.wrap ((k : Int) - 1074 + 1) = ((k + 1 : Nat) : Int) - 1074 := by rw [wrap_i64] <;> omega
  have := packed7 (2 ^ 52) (((k + 1 : Nat) : Int) - 1074) (by decide) (by omega) (by omega)
  rw [joined_fin (k + 1) (2 ^ 52) (by decide) (Or.inr (Nat.le_refl _)), show (k + 1) * 2 ^ 52 + 2 ^ 52 = k * 2 ^ 52 + q by omega] at this
  rw [st_eq (by omega), e1, e2, e3, interp_call_ret]
  exact this
 ·have := packed7 q ((k : Int) - 1074) (by omega) (by omega) (by omega)
  rw [joined_fin k q (by omega) h] at this
  rw [st_ne (by omega), interp_call_ret]
  exact this
theorem near_found' (x y k : Nat) (hy : 0 < y) (hq : nearAt x y ((k : Int) - 1074) ≤ 2 ^ 53) (hlow : k = 0 ∨ E * 2 ^ (k - 1) * y ≤ 2 * x * U) :
  Near x y (k * 2 ^ 52 + nearAt x y ((k : Int) - 1074)) ∧ (k = 0 ∨ 2 ^ 52 ≤ nearAt x y ((k : Int) - 1074)) := by
 rcases Nat.lt_or_ge (nearAt x y ((k : Int) - 1074)) (2 ^ 53) with h | h
 ·exact near_found x y k hy h hlow
 ·have hu := nearAt_up x y k hy
  have hl := nearAt_low x y k hy
  generalize nearAt x y ((k : Int) - 1074) = q at *
  have hqe : q = 2 ^ 53 := by omega
  refine ⟨⟨Or.inl ?_, Or.inr ?_⟩, Or.inr (by omega)⟩
  ·have hm : (2 * q + 1) * 2 ^ k < mid (k * 2 ^ 52 + q) := by
    have e : k * 2 ^ 52 + q = (k + 1) * 2 ^ 52 + 2 ^ 52 := by omega
    rw [e, mid_at (k + 1) (2 ^ 52) (by decide) (Or.inr (Nat.le_refl _)), Nat.pow_succ 2 k, Nat.mul_comm (2 ^ k) 2, ← Nat.mul_assoc]
    exact Nat.mul_lt_mul_of_pos_right (by omega) (Nat.pow_pos (by decide))
   have := Nat.mul_lt_mul_of_pos_right hm hy
   omega
  ·have hm : mid (k * 2 ^ 52 + q - 1) = (2 * q - 1) * 2 ^ k := by
    have e : k * 2 ^ 52 + q - 1 = k * 2 ^ 52 + (q - 1) := by omega
    rw [e, mid_at k (q - 1) (by omega) (Or.inr (by omega)), show 2 * (q - 1) + 1 = 2 * q - 1 by omega]
   rw [hm]
   exact (near_found2 q _ _ y (by omega) hl).imp id fun h => ⟨h.1, by omega⟩
theorem near_fin {x y v : Nat} (hy : 0 < y) (h : Near x y v) : bitsN x y = finN v := by
 obtain ⟨w, nw, hw⟩ := bitsN_near x y hy
 rw [hw, near_eq nw h hy hy rfl]
theorem round_tail (k A B : Nat) (q : Nat) (hqn : nearN A B = q) (hq : q ≤ 2 ^ 53) (hk : k ≤ 900000) (h : k = 0 ∨ 2 ^ 52 ≤ q) (hA : Fits (A / B)) (bb : Bool) (hbb : bb = true ↔ (B < 2 * (A % B) ∨ (2 * (A % B) = B ∧ A / B % 2 = 1))) :
  rk Tryz.prog pol (Task.at_ 189 0 [true, false, true, true, true, true, false, false, false, true, true, true] (sv 69 [(6, V.d (D.i .i64 ((k : Int) - 1074))), (9, V.d (D.l (nb (A / B)) (ws (A / B)))), (59, V.d (D.b bb))]) [] []) =
   some (.t [.d (.i .u64 ((finN (k * 2 ^ 52 + q)).1 : Nat)), .d (.b (finN (k * 2 ^ 52 + q)).2)], []) := by
 have o1 : rk Tryz.prog pol (Task.call 101 [V.d (D.i .u64 1)] []) = _ := rof_ws 1 (by decide)
 have hp := packed_s q k hq hk h
 have hm : q % 18446744073709551616 = q := Nat.mod_eq_of_lt (by omega)
 rw [f32_at7111]
 unfold nearN at hqn
 cases bb with
 | true =>
  rw [if_pos (hbb.1 rfl)] at hqn
  have ha := radd_ws (nb (A / B)) (nb 1) (A / B) 1 hA fits_1
  rw [hqn] at ha
  have hl := rlow_ws (nb q) q
  rw [hm] at hl
  rw [st_T, st_L o1, st_L ha, st_I hl, st_IB hp, interp_ret]
 | false =>
  rw [if_neg (fun h => absurd (hbb.2 h) (by decide))] at hqn
  have hl := rlow_ws (nb q) q
  rw [hm] at hl
  rw [hqn, st_F, st_I hl, st_IB hp, interp_ret]
theorem rround_step (b c : Bool) (x y : Nat) (hx : Mid x) (hy : Mid y) (hy0 : 0 < y) (k : Nat) (hk : k ≤ 10000) (hlow : k = 0 ∨ E * 2 ^ (k - 1) * y ≤ 2 * x * U) :
  (rk Tryz.prog pol (Task.at_ 189 0 [false, true, true, true] (sv 69 [(0, V.d (D.l b (ws x))), (1, V.d (D.l c (ws y))), (6, V.d (D.i .i64 ((k : Int) - 1074)))]) [] []) = some (.t [.d (.i .u64 ((bitsN x y).1 : Nat)), .d (.b (bitsN x y).2)], [])) ∨
  (2 ^ 53 ≤ nearAt x y ((k : Int) - 1074) ∧ E * 2 ^ k * y ≤ 2 * x * U ∧ rk Tryz.prog pol (Task.at_ 189 0 [false, true, true, true] (sv 69 [(0, V.d (D.l b (ws x))), (1, V.d (D.l c (ws y))), (6, V.d (D.i .i64 ((k : Int) - 1074)))]) [] []) =
   rk Tryz.prog pol (Task.at_ 189 0 [false, true, true, true] (sv 69 [(0, V.d (D.l b (ws x))), (1, V.d (D.l c (ws y))), (6, V.d (D.i .i64 (((k + 1 : Nat) : Int) - 1074)))]) [] [])) := by
 have hwn : IntKind.i64.wrap (0 - ((k : Int) - 1074)) = 1074 - (k : Int) := by rw [wrap_i64] <;> omega
 have ea : (if (0 : Int) > 1074 - (k : Int) then 0 else 1074 - (k : Int)) = ((1074 - k : Nat) : Int) := by split <;> omega
 have eb : (if (0 : Int) > (k : Int) - 1074 then 0 else (k : Int) - 1074) = ((k - 1074 : Nat) : Int) := by split <;> omega
 obtain ⟨fx, -, -⟩ := hx.mul_fits (k := 1074 - k) (by omega)
 obtain ⟨fy, -, fy2⟩ := hy.mul_fits (k := k - 1074) (by omega)
 have s1 := rshl_ws b x (1074 - k) hx.fits (by omega)
 have s2 := rshl_ws c y (k - 1074) hy.fits (by omega)
 have hB0 : 0 < y * 2 ^ (k - 1074) := Nat.mul_pos hy0 (Nat.pow_pos (by decide))
 have hnear : nearAt x y ((k : Int) - 1074) = nearN (x * 2 ^ (1074 - k)) (y * 2 ^ (k - 1074)) := by
  unfold nearAt
  split
  ·rw [show (-((k : Int) - 1074)).toNat = 1074 - k by omega, show k - 1074 = 0 by omega, Nat.pow_zero, Nat.mul_one]
  ·rw [show ((k : Int) - 1074).toNat = k - 1074 by omega, show 1074 - k = 0 by omega, Nat.pow_zero, Nat.mul_one]
 have hw6 : IntKind.i64.wrap ((k : Int) - 1074 + 1) = ((k + 1 : Nat) : Int) - 1074 := by rw [wrap_i64] <;> omega
 generalize x * 2 ^ (1074 - k) = A at *
 generalize y * 2 ^ (k - 1074) = B at *
 have hd := rdiv_ws (nb A) (nb B) A B fx fy2 hB0
 have hdl : A / B ≤ A := Nat.div_le_self _ _
 have hrl : A % B < B := Nat.mod_lt _ hB0
 have fq : Fits (A / B) := fx.le hdl
 have fr : Fits (A % B) := fy.le (by omega)
 have frr : Fits (A % B + A % B) := fy2.le (by omega)
 have hbq := rbits_ws (nb (A / B)) (A / B) fq
 rw [f32_at23, hwn, ea, eb, st_L s1, st_L s2, st_LLB hd, st_I hbq]
 have hge : A / B ≤ nearN A B ∧ nearN A B ≤ A / B + 1 := by unfold nearN; split <;> omega
 by_cases hbig : blen (A / B) > 53
 ·right
  have h53 : 2 ^ 53 ≤ A / B := by
   rcases Nat.lt_or_ge (A / B) (2 ^ 53) with h | h
   ·have := (blen_le_iff (A / B) 53).2 h; omega
   ·exact h
  have hq : 2 ^ 53 ≤ nearAt x y ((k : Int) - 1074) := by rw [hnear]; omega
  refine ⟨hq, low_of_big x y k hy0 hq, ?_⟩
  rw [st_t (by omega), hw6, interp_call_ret]
 ·left
  have h53 : A / B < 2 ^ 53 := (blen_le_iff (A / B) 53).1 (by omega)
  have hq : nearAt x y ((k : Int) - 1074) ≤ 2 ^ 53 := by rw [hnear]; omega
  obtain ⟨hn, h52⟩ := near_found' x y k hy0 hq hlow
  rw [near_fin hy0 hn]
  generalize nearAt x y ((k : Int) - 1074) = q at *
  have ha := radd_ws (nb (A % B)) (nb (A % B)) (A % B) (A % B) fr fr
  have hc := rcmp_ws (nb (A % B + A % B)) (nb B) (A % B + A % B) B frr fy
  have tail := round_tail k A B q hnear.symm hq (by omega) h52 fq
  rw [st_f (by omega), st_L ha, st_I hc]
  unfold cmpN
  by_cases h1 : A % B + A % B < B
  ·rw [if_pos h1, st_f (by decide), st_ne (by decide), interp_call_ret]
   exact tail false ⟨fun h => absurd h (by decide), fun h => by omega⟩
  ·rw [if_neg h1]
   by_cases h2 : B < A % B + A % B
   ·rw [if_pos h2, st_t (by decide), interp_call_ret]
    exact tail true ⟨fun _ => by omega, fun _ => rfl⟩
   ·have hb0 : rk Tryz.prog pol (Task.call 153 [V.d (D.l (nb (A / B)) (ws (A / B))), V.d (D.i .i64 0)] []) = _ := rbit_ws (nb (A / B)) (A / B) 0 (by decide)
    rw [Nat.pow_zero, Nat.div_one] at hb0
    rw [if_neg h2, st_f (by decide), st_eq rfl, st_I hb0, interp_call_ret]
    refine tail _ ?_
    rw [beq_iff_eq]
    constructor
    ·intro h; omega
    ·intro h; omega
theorem rround_ws (b c : Bool) (x y : Nat) (hx : Mid x) (hy : Mid y) (hy0 : 0 < y) : rk Tryz.prog pol (Task.call 189 [V.d (D.l b (ws x)), V.d (D.l c (ws y))] []) = some (.t [.d (.i .u64 ((bitsN x y).1 : Nat)), .d (.b (bitsN x y).2)], []) := by
 rw [f32, ws_len]
 by_cases h0 : x = 0
 ·have hl : (limbs x).length = 0 := by rw [(limbs_nil_iff x).2 h0]; rfl
  rw [hl, st_eq (show ((0 : Nat) : Int) = 0 from rfl), interp_ret, bitsN, if_pos h0]; rfl
 ·have hl : (limbs x).length ≠ 0 := fun e => h0 ((limbs_nil_iff x).1 (List.length_eq_zero_iff.1 e))
  have h1 := rbits_ws b x hx.fits
  have h2 := rbits_ws c y hy.fits
  have hbx := hx.blen
  have hby := hy.blen
  have hw1 : IntKind.i64.wrap (((blen x : Nat) : Int) - ((blen y : Nat) : Int)) = (blen x : Int) - blen y := by rw [wrap_i64] <;> omega
  have hw3 : IntKind.i64.wrap ((blen x : Int) - blen y - 53) = (blen x : Int) - blen y - 53 := by rw [wrap_i64] <;> omega
  have hE : (if -1074 > (blen x : Int) - blen y - 53 then (-1074 : Int) else (blen x : Int) - blen y - 53) = firstE x y := by
   unfold firstE; split <;> omega
  have hE1 : -1074 ≤ firstE x y := Int.le_max_right ..
  have hE2 : firstE x y ≤ 4000 := by unfold firstE; omega
  obtain ⟨k, hk⟩ : ∃ k : Nat, firstE x y = (k : Int) - 1074 := ⟨(firstE x y + 1074).toNat, by omega⟩
  have h3 := third x y h0 hy0
  rw [st_ne (by omega), st_I h1, st_I h2, hw1, hw3, hE, interp_call_ret, hk]
  rw [hk, show (k : Int) - 1074 + 2 = ((k + 2 : Nat) : Int) - 1074 by omega] at h3
  have hlow : k = 0 ∨ E * 2 ^ (k - 1) * y ≤ 2 * x * U := by
   rcases Nat.eq_zero_or_pos k with h | h
   ·exact Or.inl h
   ·exact Or.inr (low_of_first x y k h0 h (by unfold firstE at hk; omega))
  rcases rround_step b c x y hx hy hy0 k (by omega) hlow with h | ⟨-, l1, h⟩
  ·exact h
  ·rw [h]
   rcases rround_step b c x y hx hy hy0 (k + 1) (by omega) (Or.inr l1) with h | ⟨-, l2, h⟩
   ·exact h
   ·rw [h]
    rcases rround_step b c x y hx hy hy0 (k + 1 + 1) (by omega) (Or.inr l2) with h | ⟨l3, -, h⟩
    ·exact h
    ·exfalso
     rw [show k + 1 + 1 = k + 2 from rfl] at l3
     omega
end Go.Dn.Dec
namespace Go.Dn.Dec
open Go.Proofs
section
variable {f : Task → Option Out}
theorem numF_append (v : Nat) (a b : List UInt8) : numF v (a ++ b) = numF (numF v a) b := by simp [numF, List.foldl_append]
theorem numB_append (a b : List UInt8) : numB (a ++ b) = numB a * 10 ^ b.length + numB b := by rw [numB, numF_append, numF_eq]; rfl
theorem ratB_eq (m : Int) (x : Nat) : ratB m x = (x * 10 ^ m.toNat, 10 ^ (-m).toNat) := by
 unfold ratB
 split
 ·rename_i h
  rw [show (-m).toNat = 0 by omega]
 ·rename_i h
  rw [show m.toNat = 0 by omega, Nat.pow_zero, Nat.mul_one]
theorem st_IBI {t : Task} {k j : IntKind} {n m : Int} {b : Bool} {e e' e'' : V} {K : Int → Bool → Int → Tr} (h : f t = some (.t [.d (.i k n), .d (.b b), .d (.i j m)], [])) :
  interp f (.call t fun o => ift o.snd.isEmpty (unT o.fst fun l => ift (l.length == 3) (asD (l.getD 0 e) fun d => asI k d fun x => asD (l.getD 1 e') fun d' => asB d' fun y => asD (l.getD 2 e'') fun d'' => asI j d'' fun z => K x y z))) = interp f (K n b m) := by
 rw [st_call h]
 show interp f (asI k (.i k n) fun x => asB (.b b) fun y => asI j (.i j m) fun z => K x y z) = _
 rw [interp_asI, if_pos rfl, asB_b, interp_asI, if_pos rfl]
end
def capF (v : Nat) (d : List UInt8) : Nat := d.foldl (fun a c => min (a * 10 + digV c) 100000) v
theorem capF_eq : ∀ (d : List UInt8) (v u : Nat), v = min u 100000 → capF v d = min (numF u d) 100000
 | [], v, u, h => h
 | c :: d, v, u, h => capF_eq d (min (v * 10 + digV c) 100000) (u * 10 + digV c) (by omega)
def expB (s : List UInt8) : Int × Bool × Int :=
 match s with
 | [] => (0, false, 0)
 | c :: r => if c ≠ 101 ∧ c ≠ 69 then (0, false, 2)
  else if (signB r).2 = [] then (0, false, 2)
  else if (signB r).2.all isDig = true then ((if (signB r).1 = true then -(capF 0 (signB r).2 : Int) else (capF 0 (signB r).2 : Int)), decide (400 < capF 0 (signB r).2), 0)
  else (0, false, 2)
def o3 (x : Int × Bool × Int) : Option Out := some (.t [.d (.i .i64 x.1), .d (.b x.2.1), .d (.i .i64 x.2.2)], [])
theorem exp_loop (m : Bool) : ∀ (r p : List UInt8) (v : Nat), (p ++ r).length ≤ 1000000 → v ≤ 100000 →
  rk Tryz.prog pol (Task.at_ 188 0 [false, true, false, true, true, true, true, true, true, true, true] (sv 75 [(0, V.d (D.s (p ++ r))), (5, V.d (D.b m)), (6, V.d (D.i .i64 (v : Int))), (7, V.d (D.i .i64 (p.length : Int)))]) [] []) =
   o3 (if r.all isDig = true then ((if m = true then -(capF v r : Int) else (capF v r : Int)), decide (400 < capF v r), 0) else (0, false, 2))
 | [], p, v, hl, hv => by
  have hw : IntKind.i64.wrap (0 - (v : Int)) = -(v : Int) := by rw [wrap_i64] <;> omega
  have hd : decide ((v : Int) > 400) = decide (400 < v) := by
   by_cases h : 400 < v
   ·rw [decide_eq_true h, decide_eq_true (by omega)]
   ·rw [decide_eq_false h, decide_eq_false (by omega)]
  rw [List.append_nil, f27_at2815, st_f (by omega), if_pos (by rfl)]
  cases m with
  | true => rw [st_T, interp_ret, hw, hd]; rfl
  | false => rw [st_F, interp_ret, hd]; rfl
 | c :: r, p, v, hl, hv => by
  have hi : p.length < (p ++ c :: r).length := by simp
  have g : getI (p ++ c :: r) (p.length : Int) = some c := by rw [getI_nat]; simp
  have hpl : (p ++ [c]).length = p.length + 1 := by simp
  have hlen : p.length + (r.length + 1) ≤ 1000000 := by simpa using hl
  have bad : isDig c = false → o3 (if (c :: r).all isDig = true then ((if m = true then -(capF v (c :: r) : Int) else (capF v (c :: r) : Int)), decide (400 < capF v (c :: r)), 0) else (0, false, 2)) = o3 (0, false, 2) := by
   intro h
   rw [List.all_cons, h]; rfl
  rw [f27_at2815, st_t (by omega), st_ob g]
  by_cases h1 : c.toNat < 48
  ·have hd : isDig c = false := by simp [isDig]; omega
   rw [st_t (by omega), interp_call_ret, f27_at201471, st_T, interp_ret, bad hd]
   rfl
  ·rw [st_f (by omega), st_ob g, interp_call_ret, f27_at201471]
   by_cases h2 : c.toNat ≤ 57
   ·have hd : isDig c = true := by simp [isDig]; omega
    have hlt := digV_lt hd
    rw [show decide ((c.toNat : Int) > 57) = false from decide_eq_false (by omega), st_F, st_ob g, u8_sub hd]
    have w1 : IntKind.i64.wrap ((v : Int) * 10) = ((v * 10 : Nat) : Int) := by rw [wrap_i64] <;> omega
    have w2 : IntKind.i64.wrap ((digV c : Nat) : Int) = ((digV c : Nat) : Int) := by rw [wrap_i64] <;> omega
    have w3 : IntKind.i64.wrap (((v * 10 : Nat) : Int) + ((digV c : Nat) : Int)) = ((v * 10 + digV c : Nat) : Int) := by rw [wrap_i64] <;> omega
    have w4 : (if (100000 : Int) < ((v * 10 + digV c : Nat) : Int) then 100000 else ((v * 10 + digV c : Nat) : Int)) = ((min (v * 10 + digV c) 100000 : Nat) : Int) := by split <;> omega
    have w5 : IntKind.i64.wrap ((p.length : Int) + 1) = (((p ++ [c]).length : Nat) : Int) := by rw [hpl, wrap_i64] <;> omega
    have ih := exp_loop m r (p ++ [c]) (min (v * 10 + digV c) 100000) (by simpa using hl) (by omega)
    rw [List.append_assoc, List.singleton_append] at ih
    rw [w1, w2, w3, w4, w5, interp_call_ret, ih, List.all_cons, hd]
    rfl
   ·have hd : isDig c = false := by simp [isDig]; omega
    rw [show decide ((c.toNat : Int) > 57) = true from decide_eq_true (by omega), st_T, interp_ret, bad hd]
    rfl
theorem exponent_s (s : List UInt8) (hs : s.length ≤ 1000000) : rk Tryz.prog pol (Task.call 188 [V.d (D.s s)] []) = o3 (expB s) := by
  rw [f27]
  cases s with
  | nil => rw [st_eq (show (([] : List UInt8).length : Int) = 0 from rfl), interp_ret]; rfl
  | cons c r =>
    have hl : r.length ≤ 1000000 := by simp at hs; omega
    have g : getI (c :: r) 0 = some c := rfl
    have tl : List.take ((c :: r).length - 1) (List.drop 1 (c :: r)) = r := by simp
    have hle : ((0 : Int) ≤ 1 ∧ (1 : Int) ≤ (((c :: r).length : Nat) : Int)) := ⟨by decide, by rw [List.length_cons]; omega⟩
    have hne : (((c :: r).length : Nat) : Int) ≠ 0 := by rw [List.length_cons]; omega
    have main : ¬ (c ≠ 101 ∧ c ≠ 69) → rk Tryz.prog pol (Task.at_ 188 0 [true, false, true, true] (sv 75 [(0, V.d (D.s (c :: r))), (18, V.d (D.b false))]) [] []) = o3 (expB (c :: r)) := by
      intro hc
      unfold expB
      simp only [if_neg hc]
      rw [f27_at27, st_F, st_if hle, tl]
      cases r with
      | nil =>
        rw [st_f (by decide), interp_call_ret, f27_at223, st_F, st_eq (show (([] : List UInt8).length : Int) = 0 from rfl), interp_ret]
        rfl
      | cons d q =>
        have g2 : getI (d :: q) 0 = some d := rfl
        have tl2 : List.take ((d :: q).length - 1) (List.drop 1 (d :: q)) = q := by simp
        have hle2 : ((0 : Int) ≤ 1 ∧ (1 : Int) ≤ (((d :: q).length : Nat) : Int)) := ⟨by decide, by rw [List.length_cons]; omega⟩
        have hl2 : q.length ≤ 1000000 := by simp at hl; omega
        have signed : d = 43 ∨ d = 45 → rk Tryz.prog pol (Task.at_ 188 0 [true, false, true, true, true, true, true] (sv 75 [(0, V.d (D.s (d :: q))), (5, V.d (D.b false)), (33, V.d (D.b true))]) [] []) =
            o3 (if (signB (d :: q)).2 = [] then (0, false, 2)
    else if (signB (d :: q)).2.all isDig = true then ((if (signB (d :: q)).1 = true then -(capF 0 (signB (d :: q)).2 : Int) else (capF 0 (signB (d :: q)).2 : Int)), decide (400 < capF 0 (signB (d :: q)).2), 0)
    else (0, false, 2)) := by
          intro hd
          have hsg : signB (d :: q) = (decide (d = 45), q) := by
            rcases hd with rfl | rfl <;> rfl
          rw [hsg, f27_at223, st_T, st_ob g2, st_if hle2, tl2, u8_45]
          by_cases hq : q = []
          · subst hq
            rw [st_eq (show (([] : List UInt8).length : Int) = 0 from rfl), interp_ret]; rfl
          · have hq0 : ((q.length : Nat) : Int) ≠ 0 := by
              have := List.length_pos_iff.2 hq; omega
            have hL := exp_loop (decide (d = 45)) q [] 0 (by simpa using hl2) (by decide)
            rw [List.nil_append] at hL
            rw [st_ne hq0, interp_call_ret, if_neg hq]
            exact hL
        rw [st_t (by rw [List.length_cons]; omega), st_ob g2, u8_43]
        by_cases h43 : d = 43
        · rw [st_t h43, interp_call_ret]
          exact signed (Or.inl h43)
        · rw [st_f h43, st_ob g2, u8_45, interp_call_ret]
          by_cases h45 : d = 45
          · rw [decide_eq_true h45]
            exact signed (Or.inr h45)
          · have hsg : signB (d :: q) = (false, d :: q) := by simp [signB, h43, h45]
            have hL := exp_loop false (d :: q) [] 0 (by simpa using hl) (by decide)
            rw [List.nil_append] at hL
            rw [decide_eq_false h45, hsg, f27_at223, st_F, st_ne (by rw [List.length_cons]; omega), interp_call_ret, if_neg (by simp)]
            exact hL
    rw [st_ne hne, st_ob g, u8_101]
    by_cases h1 : c = 101
    · rw [st_f (by simpa using h1), interp_call_ret]
      exact main (by simp [h1])
    · rw [st_t h1, st_ob g, u8_69, interp_call_ret]
      by_cases h2 : c = 69
      · rw [decide_eq_false (by simpa using h2)]
        exact main (by simp [h2])
      · rw [decide_eq_true h2, f27_at27, st_T, interp_ret]
        simp [expB, h1, h2, o3]
def dv (l : List UInt8) : List D := ints .u8 (l.map fun c => ((digV c : Nat) : Int))
theorem dv_len (l : List UInt8) : (dv l).length = l.length := by simp [dv]
theorem dv_snoc (l : List UInt8) (c : UInt8) : dv l ++ [D.i .u8 ((digV c : Nat) : Int)] = dv (l ++ [c]) := by simp [dv, ints]
def rpL (s : List UInt8) (sg : Nat) (b : Bool) (acc : List UInt8) (pt : Bool) (af : Nat) : Task :=
 Task.at_ 150 0 [false, false, true, true, true, true, true] (sv 133 [(0, V.d (D.s s)), (4, V.d (D.i .u64 (sg : Int))), (5, V.d (D.l b (dv acc))), (6, V.d (D.b pt)), (7, V.d (D.i .i64 (af : Int)))]) [(5, 1)] []
def rpS (s : List UInt8) (sg : Nat) (b : Bool) (acc : List UInt8) (pt : Bool) (af : Nat) (go : Bool) : Task :=
 Task.at_ 150 0 [true, false, false, false, false, true, true, true, true, true] (sv 133 [(0, V.d (D.s s)), (4, V.d (D.i .u64 (sg : Int))), (5, V.d (D.l b (dv acc))), (6, V.d (D.b pt)), (7, V.d (D.i .i64 (af : Int))), (55, V.d (D.b go))]) [(5, 1)] []
theorem scan_nil (sg : Nat) (b : Bool) (acc : List UInt8) (pt : Bool) (af : Nat) : rk Tryz.prog pol (rpL [] sg b acc pt af) = rk Tryz.prog pol (rpS [] sg b acc pt af false) := by
 unfold rpL rpS
 rw [f14_at159, st_f (by decide), interp_call_ret]
theorem scan_cut (c : UInt8) (r : List UInt8) : List.take ((c :: r).length - 1) (List.drop 1 (c :: r)) = r := by simp
theorem scan_le (c : UInt8) (r : List UInt8) : ((0 : Int) ≤ 1 ∧ (1 : Int) ≤ (((c :: r).length : Nat) : Int)) := ⟨by decide, by rw [List.length_cons]; omega⟩
theorem scan_dig (c : UInt8) (r : List UInt8) (hc : isDig c = true) (sg : Nat) (b : Bool) (acc : List UInt8) (pt : Bool) (af : Nat) (ha : acc.length ≤ 1000000) (haf : af ≤ 1000000) :
  rk Tryz.prog pol (rpL (c :: r) sg b acc pt af) = rk Tryz.prog pol (rpL r sg false (acc ++ [c]) pt (if pt = true then af + 1 else af)) := by
 have h := (isDig_iff c).1 hc
 have g : getI (c :: r) 0 = some c := rfl
 have h46 : (c.toNat : Int) ≠ 46 := by omega
 have hw : IntKind.i64.wrap ((af : Int) + 1) = ((af + 1 : Nat) : Int) := by rw [wrap_i64] <;> omega
 have hh : headOk 1 (dv acc) = true := head_ints _ _
 unfold rpL
 rw [f14_at159, st_t (by rw [List.length_cons]; omega), st_ob g, st_t (by omega), st_ob g, st_t (by omega), interp_call_ret, f14_at1567, st_T, st_ob g, st_ne h46, st_ob g, hh, st_ift, Bool.or_true, st_ift, st_if (by rw [dv_len]; omega), u8_sub hc, dv_snoc, Bool.and_false]
 cases pt with
 | true => rw [st_T, hw, interp_call_ret, f14_at3359, st_if (scan_le c r), scan_cut, interp_call_ret, if_pos rfl]
 | false => rw [st_F, interp_call_ret, f14_at3359, st_if (scan_le c r), scan_cut, interp_call_ret, if_neg (by decide)]
theorem scan_dot (r : List UInt8) (sg : Nat) (b : Bool) (acc : List UInt8) (af : Nat) :
  rk Tryz.prog pol (rpL (46 :: r) sg b acc false af) = rk Tryz.prog pol (rpL r sg b acc true af) := by
 have g : getI ((46 : UInt8) :: r) 0 = some 46 := rfl
 unfold rpL
 rw [f14_at159, st_t (by rw [List.length_cons]; omega), st_ob g, st_f (by decide), st_ob g, st_eq (by rfl), interp_call_ret, f14_at1567, st_nf, st_ob g, st_eq (by rfl), interp_call_ret, f14_at3359, st_if (scan_le 46 r), scan_cut, interp_call_ret]
theorem scan_stop (c : UInt8) (r : List UInt8) (hc : isDig c = false) (sg : Nat) (b : Bool) (acc : List UInt8) (pt : Bool) (af : Nat) (hp : c = 46 → pt = true) :
  rk Tryz.prog pol (rpL (c :: r) sg b acc pt af) = rk Tryz.prog pol (rpS (c :: r) sg b acc pt af false) := by
 have h := mt (isDig_iff c).2 (by rw [hc]; decide)
 have g : getI (c :: r) 0 = some c := rfl
 unfold rpL rpS
 rw [f14_at159, st_t (by rw [List.length_cons]; omega), st_ob g]
 have fin : interp (rk Tryz.prog pol) (brB ((c.toNat : Int) == 46)
   (Tr.call (Task.at_ 150 0 [true, false, false, false, false, true, true, true, true, true] (sv 133 [(0, V.d (D.s (c :: r))), (4, V.d (D.i .u64 (sg : Int))), (5, V.d (D.l b (dv acc))), (6, V.d (D.b pt)), (7, V.d (D.i .i64 (af : Int))), (55, V.d (D.b !pt))]) [(5, 1)] []) Tr.ret)
   (Tr.call (Task.at_ 150 0 [true, false, false, false, false, true, true, true, true, true] (sv 133 [(0, V.d (D.s (c :: r))), (4, V.d (D.i .u64 (sg : Int))), (5, V.d (D.l b (dv acc))), (6, V.d (D.b pt)), (7, V.d (D.i .i64 (af : Int))), (55, V.d (D.b false))]) [(5, 1)] []) Tr.ret)) =
   rk Tryz.prog pol (Task.at_ 150 0 [true, false, false, false, false, true, true, true, true, true] (sv 133 [(0, V.d (D.s (c :: r))), (4, V.d (D.i .u64 (sg : Int))), (5, V.d (D.l b (dv acc))), (6, V.d (D.b pt)), (7, V.d (D.i .i64 (af : Int))), (55, V.d (D.b false))]) [(5, 1)] []) := by
  rw [u8_46]
  by_cases hd : c = 46
  ·rw [st_t hd, interp_call_ret, hp hd]; rfl
  ·rw [st_f hd, interp_call_ret]
 by_cases h1 : c.toNat < 48
 ·rw [st_f (by omega), st_ob g]; exact fin
 ·rw [st_t (by omega), st_ob g, st_f (by omega), st_ob g]; exact fin
theorem scan_after (sg : Nat) : ∀ (r : List UInt8) (b : Bool) (acc : List UInt8) (af : Nat), acc.length + r.length ≤ 1000 → af + r.length ≤ 1000 →
  ∃ b', rk Tryz.prog pol (rpL r sg b acc true af) = rk Tryz.prog pol (rpS (r.dropWhile isDig) sg b' (acc ++ r.takeWhile isDig) true (af + (r.takeWhile isDig).length) false)
 | [], b, acc, af, _, _ => ⟨b, by rw [scan_nil]; simp⟩
 | c :: r, b, acc, af, h1, h2 => by
  rw [List.length_cons] at h1 h2
  by_cases hc : isDig c = true
  ·obtain ⟨b', hb⟩ := scan_after sg r false (acc ++ [c]) (af + 1) (by simp; omega) (by omega)
   refine ⟨b', ?_⟩
   rw [scan_dig c r hc sg b acc true af (by omega) (by omega), if_pos rfl, hb, List.dropWhile_cons, List.takeWhile_cons, hc, if_pos rfl, if_pos rfl, List.append_assoc, List.singleton_append, List.length_cons, show af + 1 + (r.takeWhile isDig).length = af + ((r.takeWhile isDig).length + 1) by omega]
  ·have hc' : isDig c = false := by simpa using hc
   refine ⟨b, ?_⟩
   rw [scan_stop c r hc' sg b acc true af (fun _ => rfl), List.dropWhile_cons, List.takeWhile_cons, hc', if_neg (by decide), if_neg (by decide), List.append_nil]; rfl
def scanB (s : List UInt8) : List UInt8 × List UInt8 × Bool × List UInt8 :=
 match s.dropWhile isDig with
 | [] => ([], s.takeWhile isDig, false, [])
 | c :: r => if c = 46 then (r.dropWhile isDig, s.takeWhile isDig, true, r.takeWhile isDig) else (c :: r, s.takeWhile isDig, false, [])
theorem scan_all (sg : Nat) : ∀ (r : List UInt8) (b : Bool) (acc : List UInt8), acc.length + r.length ≤ 1000 →
  ∃ b', rk Tryz.prog pol (rpL r sg b acc false 0) = rk Tryz.prog pol (rpS (scanB r).1 sg b' (acc ++ (scanB r).2.1 ++ (scanB r).2.2.2) (scanB r).2.2.1 (scanB r).2.2.2.length false)
 | [], b, acc, _ => ⟨b, by rw [scan_nil]; simp [scanB]⟩
 | c :: r, b, acc, h1 => by
  rw [List.length_cons] at h1
  by_cases hc : isDig c = true
  ·obtain ⟨b', hb⟩ := scan_all sg r false (acc ++ [c]) (by simp; omega)
   refine ⟨b', ?_⟩
   have e : scanB (c :: r) = ((scanB r).1, c :: (scanB r).2.1, (scanB r).2.2.1, (scanB r).2.2.2) := by
    unfold scanB
    rw [List.dropWhile_cons, List.takeWhile_cons, hc, if_pos rfl, if_pos rfl]
    split
    ·rfl
    ·split <;> rfl
   rw [scan_dig c r hc sg b acc false 0 (by omega) (by omega), if_neg (by decide), hb, e]
   simp
  ·have hc' : isDig c = false := by simpa using hc
   by_cases hd : c = 46
   ·subst hd
    obtain ⟨b', hb⟩ := scan_after sg r b acc 0 (by omega) (by omega)
    refine ⟨b', ?_⟩
    have e : scanB (46 :: r) = (r.dropWhile isDig, [], true, r.takeWhile isDig) := by
     unfold scanB
     rw [List.dropWhile_cons, List.takeWhile_cons, hc', if_neg (by decide), if_neg (by decide)]
     simp
    rw [scan_dot, hb, e]
    simp
   ·refine ⟨b, ?_⟩
    have e : scanB (c :: r) = (c :: r, [], false, []) := by
     unfold scanB
     rw [List.dropWhile_cons, List.takeWhile_cons, hc', if_neg (by decide), if_neg (by decide)]
     simp [hd]
    rw [scan_stop c r hc' sg b acc false 0 (fun h => absurd h hd), e]
    simp
def rpN (sg : Nat) (b : Bool) (ds : List UInt8) (af : Nat) (ex : Int) (bx : Bool) (x i : Nat) (fl : List (Nat × Nat)) : Task :=
 Task.at_ 150 0 [false, true, false, true, true, true, true, true, true, true, true, true, true, true, true] (sv 133 [(4, V.d (D.i .u64 (sg : Int))), (5, V.d (D.l b (dv ds))), (7, V.d (D.i .i64 (af : Int))), (8, V.d (D.i .i64 ex)), (11, V.d (D.l bx (ws x))), (12, V.d (D.i .i64 (i : Int)))]) fl []
def sgV (neg : Bool) : Nat := if neg = true then 9223372036854775808 else 0
def outR (neg : Bool) (x : Nat) (m : Int) : Nat × Int :=
 if (bitsN (ratB m x).1 (ratB m x).2).2 = false then (0, 5) else (signV neg (bitsN (ratB m x).1 (ratB m x).2).1, 0)
def o2 (x : Nat × Int) : Option Out := some (.t [.d (.i .u64 (x.1 : Nat)), .d (.i .i64 x.2)], [])
theorem sg_or (neg : Bool) {v : Nat} (h : v < 2 ^ 63) : IntKind.u64.wrap (((BitVec.ofInt IntKind.u64.bits ((sgV neg : Nat) : Int) ||| BitVec.ofInt IntKind.u64.bits (v : Int)).toNat : Nat) : Int) = ((signV neg v : Nat) : Int) := by
 cases neg with
 | true =>
  have := (sign_or h).1
  rw [show (BitVec.ofInt IntKind.u64.bits ((sgV true : Nat) : Int) ||| BitVec.ofInt IntKind.u64.bits (v : Int)) = (BitVec.ofInt IntKind.u64.bits (v : Int) ||| BitVec.ofInt IntKind.u64.bits 9223372036854775808) from BitVec.or_comm ..]
  exact this
 | false =>
  have := or_nat (a := 0) (b := v) (by decide) (by omega)
  rw [Nat.zero_or] at this
  have e : (BitVec.ofInt IntKind.u64.bits ((sgV false : Nat) : Int) ||| BitVec.ofInt IntKind.u64.bits (v : Int)).toNat = v := this
  rw [e, u64_wrap]
  show (v : Int) % _ = (v : Int)
  omega
theorem last_s (neg : Bool) (b c : Bool) (p q : Nat) (hp : Mid p) (hq : Mid q) (hq0 : 0 < q) (fl : List (Nat × Nat)) (hfl : fl = [] ∨ fl = [(11, 1)]) :
  rk Tryz.prog pol (Task.at_ 150 0 [true, true, true, true, true, true, true, true, true, true, true, true, true, true, true, true] (sv 133 [(4, V.d (D.i .u64 ((sgV neg : Nat) : Int))), (11, V.d (D.l b (ws p))), (13, V.d (D.l c (ws q)))]) fl []) =
   o2 (if (bitsN p q).2 = false then (0, 5) else (signV neg (bitsN p q).1, 0)) := by
 have h := rround_ws b c p q hp hq hq0
 have hlt := bitsN_lt p q hq0
 have hor := sg_or neg hlt
 rcases hfl with rfl | rfl
 ·rw [f14_at131071, st_IB h, hor]
  cases (bitsN p q).2 with
  | true => rw [st_nt, interp_ret]; rfl
  | false => rw [st_nf, interp_ret]; rfl
 ·rw [f14_at131071_1, st_IB h, hor]
  cases (bitsN p q).2 with
  | true => rw [st_nt, interp_ret]; rfl
  | false => rw [st_nf, interp_ret]; rfl
theorem rnum_end (neg : Bool) (b : Bool) (ds : List UInt8) (af : Nat) (ex : Int) (bx : Bool) (x i : Nat) (fl : List (Nat × Nat)) (hfl : fl = [(11, 1), (5, 1)] ∨ fl = [(5, 1)]) (hi : i = ds.length) (hx : x < 10 ^ 60) (hm1 : -500 ≤ ex - af) (hm2 : ex - af ≤ 500) (haf : af ≤ 1000) :
  rk Tryz.prog pol (rpN (sgV neg) b ds af ex bx x i fl) = o2 (outR neg x (ex - af)) := by
 have hmx : Mid x := mid_lt (Nat.lt_trans hx (pow10_lt (n := 60) (by decide)))
 have w1 : IntKind.i64.wrap (ex - (af : Int)) = ex - (af : Int) := by rw [wrap_i64] <;> omega
 unfold outR
 rw [ratB_eq]
 obtain ⟨m, hm⟩ : ∃ m : Int, m = ex - (af : Int) := ⟨_, rfl⟩
 rw [← hm] at hm1 hm2 w1 ⊢
 have m1 : Mid (x * 10 ^ m.toNat) := by
  have := (ratB_mid (m := m) hx hm1 hm2).1
  rw [ratB_eq] at this; exact this
 have m2 : Mid (10 ^ (-m).toNat) := mid_lt (pow10_lt (by omega))
 have p2 : 0 < 10 ^ (-m).toNat := Nat.pow_pos (by decide)
 have fin : ∀ X : Option Out, (∀ (b1 b2 : Bool) (fl' : List (Nat × Nat)), fl' = [] ∨ fl' = [(11, 1)] → rk Tryz.prog pol (Task.at_ 150 0 [true, true, true, true, true, true, true, true, true, true, true, true, true, true, true, true] (sv 133 [(4, V.d (D.i .u64 ((sgV neg : Nat) : Int))), (11, V.d (D.l b1 (ws (x * 10 ^ m.toNat)))), (13, V.d (D.l b2 (ws (10 ^ (-m).toNat))))]) fl' []) = X) → rk Tryz.prog pol (rpN (sgV neg) b ds af ex bx x i fl) = X := by
  intro X hX
  unfold rpN
  by_cases h : m ≥ 0
  ·have ht := rten_ws m.toNat (by omega)
   rw [show ((m.toNat : Nat) : Int) = m by omega] at ht
   have hmul := rmul_ws bx (tb m.toNat) x (10 ^ m.toNat) hmx.fits (mid_lt (pow10_lt (by omega))).fits
   have h1 := hX (nb (x * 10 ^ m.toNat)) true [] (Or.inl rfl)
   rw [show (-m).toNat = 0 by omega, Nat.pow_zero, ws_one] at h1
   rcases hfl with rfl | rfl
   ·rw [f14_at45055, dv_len, st_f (by omega), ← hm, w1, st_t h, st_L ht, st_L hmul, interp_call_ret]
    exact h1
   ·rw [f14_at45055_1, dv_len, st_f (by omega), ← hm, w1, st_t h, st_L ht, st_L hmul, interp_call_ret]
    exact h1
  ·have ht := rten_ws (-m).toNat (by omega)
   have w2 : IntKind.i64.wrap (0 - m) = (((-m).toNat : Nat) : Int) := by rw [wrap_i64] <;> omega
   have h1 := hX bx (tb (-m).toNat) [(11, 1)] (Or.inr rfl)
   have h2 := hX bx (tb (-m).toNat) [] (Or.inl rfl)
   rw [show m.toNat = 0 by omega, Nat.pow_zero, Nat.mul_one] at h1 h2
   rcases hfl with rfl | rfl
   ·rw [f14_at45055, dv_len, st_f (by omega), ← hm, w1, st_f h, w2, st_L ht, interp_call_ret]
    exact h1
   ·rw [f14_at45055_1, dv_len, st_f (by omega), ← hm, w1, st_f h, w2, st_L ht, interp_call_ret]
    exact h2
 exact fin _ fun b1 b2 fl' hfl' => last_s neg b1 b2 _ _ m1 m2 p2 fl' hfl'
theorem num_all (neg : Bool) (b : Bool) (ds : List UInt8) (hds : ∀ c ∈ ds, isDig c = true) (hdl : ds.length ≤ 60) (af : Nat) (ex : Int) (hm1 : -500 ≤ ex - af) (hm2 : ex - af ≤ 500) (haf : af ≤ 1000) : ∀ (d i : Nat) (bx : Bool) (fl : List (Nat × Nat)), i + d = ds.length → (fl = [(11, 1), (5, 1)] ∨ fl = [(5, 1)]) →
  rk Tryz.prog pol (rpN (sgV neg) b ds af ex bx (numB (ds.take i)) i fl) = o2 (outR neg (numB ds) (ex - af))
 | 0, i, bx, fl, hi, hfl => by
  have h1 : ds.take i = ds := List.take_of_length_le (by omega)
  rw [h1]
  exact rnum_end neg b ds af ex bx (numB ds) i fl hfl (by omega) (Nat.lt_of_lt_of_le (numB_lt ds hds) (Nat.pow_le_pow_right (by decide) hdl)) hm1 hm2 haf
 | d + 1, i, bx, fl, hi, hfl => by
  have hil : i < ds.length := by omega
  have hc : isDig ds[i] = true := hds _ (List.getElem_mem hil)
  have hlt := digV_lt hc
  have hx : numB (ds.take i) < 10 ^ 60 := Nat.lt_of_lt_of_le (numB_lt _ fun c h => hds c (List.mem_of_mem_take h)) (Nat.pow_le_pow_right (by decide) (by rw [List.length_take]; omega))
  have hstep : numB (ds.take (i + 1)) = numB (ds.take i) * 10 + digV ds[i] := by
   rw [List.take_add_one, List.getElem?_eq_getElem hil, Option.toList_some, numB_append]
   have h1 : numB [ds[i]] = 0 * 10 + digV ds[i] := rfl
   rw [h1, Nat.zero_mul, Nat.zero_add]; rfl
  have ih := num_all neg b ds hds hdl af ex hm1 hm2 haf d (i + 1) (nb (numB (ds.take (i + 1)))) [(5, 1)] (by omega) (Or.inr rfl)
  have hgd : (dv ds)[i]? = some (D.i .u8 ((digV ds[i] : Nat) : Int)) := by
   unfold dv
   rw [get_ints, List.getElem?_map, List.getElem?_eq_getElem hil]; rfl
  have hgI : getI (dv ds) (i : Int) = some (D.i .u8 ((digV ds[i] : Nat) : Int)) := by rw [getI_nat, hgd]
  have fx : ∀ k, k < 10 ^ 61 → Fits k := fun k hk => (mid_lt (Nat.lt_trans hk (pow10_lt (n := 61) (by decide)))).fits
  have hm : rk Tryz.prog pol (Task.call 105 [V.d (D.l bx (ws (numB (ds.take i)))), V.d (D.l true [D.i IntKind.u32 10])] []) = some (.d (.l (nb (numB (ds.take i) * 10)) (ws (numB (ds.take i) * 10))), []) := by
   have := rmul_ws bx true (numB (ds.take i)) 10 (fx _ (by omega)) (fx _ (by omega))
   rw [show ws 10 = [D.i IntKind.u32 10] by rw [ws, limbs_pos (by decide), show 10 / W = 0 by decide, limbs_zero]; rfl] at this
   exact this
  have hw : IntKind.u64.wrap ((digV ds[i] : Nat) : Int) = ((digV ds[i] : Nat) : Int) := by rw [u64_wrap]; omega
  have ho := rof_ws (digV ds[i]) (by omega)
  have ha := radd_ws (nb (numB (ds.take i) * 10)) (nb (digV ds[i])) (numB (ds.take i) * 10) (digV ds[i]) (fx _ (by omega)) (fx _ (by omega))
  have hw2 : IntKind.i64.wrap ((i : Int) + 1) = ((i + 1 : Nat) : Int) := by rw [wrap_i64] <;> omega
  rw [← hstep] at ha
  rw [← ih]
  unfold rpN
  rcases hfl with rfl | rfl
  ·rw [f14_at45055, dv_len, st_t (by omega), st_L hm, st_ob hgI, width1_i, st_ift, Int.toNat_natCast, st_ob hgd, st_ob (cells0_i _ _), st_asI, hw, st_L ho, st_L ha, hw2, interp_call_ret]
  ·rw [f14_at45055_1, dv_len, st_t (by omega), st_L hm, st_ob hgI, width1_i, st_ift, Int.toNat_natCast, st_ob hgd, st_ob (cells0_i _ _), st_asI, hw, st_L ho, st_L ha, hw2, interp_call_ret]
end Go.Dn.Dec
namespace Go.Dn.Dec
open Go.Proofs
set_option exponentiation.threshold 5000000
theorem app_dig {a b : List UInt8} (ha : ∀ c ∈ a, isDig c = true) (hb : ∀ c ∈ b, isDig c = true) : ∀ c ∈ a ++ b, isDig c = true := fun c hc => (List.mem_append.1 hc).elim (ha c) (hb c)
theorem takeW (w t : List UInt8) (hw : ∀ c ∈ w, isDig c = true) (ht : t.takeWhile isDig = []) : (w ++ t).takeWhile isDig = w := by
 induction w with
 | nil => exact ht
 | cons c w ih =>
  rw [List.cons_append, List.takeWhile_cons, hw c (by simp), if_pos rfl, ih fun c h => hw c (by simp [h])]
theorem dropW (w t : List UInt8) (hw : ∀ c ∈ w, isDig c = true) (ht : t.dropWhile isDig = t) : (w ++ t).dropWhile isDig = t := by
 induction w with
 | nil => exact ht
 | cons c w ih =>
  rw [List.cons_append, List.dropWhile_cons, hw c (by simp), if_pos rfl, ih fun c h => hw c (by simp [h])]
def refB (s : List UInt8) : Nat × Int :=
 let n := (signB s).1
 let q := scanB (signB s).2
 if q.2.1 ++ q.2.2.2 = [] ∨ (q.2.2.1 = true ∧ q.2.2.2 = []) then (0, 2)
 else if (expB q.1).2.2 ≠ 0 then (0, (expB q.1).2.2)
 else if 60 < (q.2.1 ++ q.2.2.2).length then (0, 4)
 else if (expB q.1).2.1 = true then (0, 5)
 else outR n (numB (q.2.1 ++ q.2.2.2)) ((expB q.1).1 - (q.2.2.2.length : Int))
theorem expB_le (s : List UInt8) (h : (expB s).2.1 = false) : -400 ≤ (expB s).1 ∧ (expB s).1 ≤ 400 := by
 unfold expB at h ⊢
 split
 ·exact ⟨by decide, by decide⟩
 ·rename_i c r
  simp only at h ⊢
  split
  ·exact ⟨by decide, by decide⟩
  ·rename_i h1
   rw [if_neg h1] at h
   split
   ·exact ⟨by decide, by decide⟩
   ·rename_i h2
    rw [if_neg h2] at h
    split
    ·rename_i h3
     rw [if_pos h3] at h
     have := of_decide_eq_false h
     simp only
     split <;> omega
    ·exact ⟨by decide, by decide⟩
theorem scanB_dig (s : List UInt8) : (∀ c ∈ (scanB s).2.1 ++ (scanB s).2.2.2, isDig c = true) ∧ (scanB s).1.length ≤ s.length ∧ (scanB s).2.2.2.length ≤ s.length ∧ ((scanB s).2.1 ++ (scanB s).2.2.2).length ≤ s.length := by
 have h1 := take_dig s
 have hl : (s.takeWhile isDig).length + (s.dropWhile isDig).length = s.length := by
  have := congrArg List.length (List.takeWhile_append_dropWhile (p := isDig) (l := s))
  rwa [List.length_append] at this
 unfold scanB
 split
 ·rename_i e
  rw [e] at hl
  refine ⟨by simpa using h1, by simp, by simp, by simp only [List.append_nil]; simp at hl; omega⟩
 ·rename_i c r e
  rw [e, List.length_cons] at hl
  have hr : (r.takeWhile isDig).length + (r.dropWhile isDig).length = r.length := by
   have := congrArg List.length (List.takeWhile_append_dropWhile (p := isDig) (l := r))
   rwa [List.length_append] at this
  split
  ·exact ⟨app_dig h1 (take_dig r), by simp only; omega, by simp only; omega, by simp only [List.length_append]; omega⟩
  ·refine ⟨by simpa using h1, by simp only [List.length_cons]; omega, by simp, by simp only [List.append_nil]; omega⟩
theorem ref_stop (neg : Bool) (t : List UInt8) (b : Bool) (ds : List UInt8) (hds : ∀ c ∈ ds, isDig c = true) (pt : Bool) (af : Nat) (ht : t.length ≤ 1000) (haf : af ≤ ds.length) (hdl : ds.length ≤ 1000) :
  rk Tryz.prog pol (rpS t (sgV neg) b ds pt af false) = o2 (if ds = [] ∨ (pt = true ∧ af = 0) then (0, 2)
   else if (expB t).2.2 ≠ 0 then (0, (expB t).2.2) else if 60 < ds.length then (0, 4) else if (expB t).2.1 = true then (0, 5) else outR neg (numB ds) ((expB t).1 - (af : Int))) := by
 have he := exponent_s t (by omega)
 have rest : ∀ bad : Bool, rk Tryz.prog pol (Task.at_ 150 0 [true, false, true, true, true, true, true, true]
   (sv 133 [(0, V.d (D.s t)), (4, V.d (D.i .u64 ((sgV neg : Nat) : Int))), (5, V.d (D.l b (dv ds))), (7, V.d (D.i .i64 (af : Int))), (79, V.d (D.b bad))]) [(5, 1)] []) =
   o2 (if bad = true then (0, 2) else if (expB t).2.2 ≠ 0 then (0, (expB t).2.2) else if 60 < ds.length then (0, 4) else if (expB t).2.1 = true then (0, 5) else outR neg (numB ds) ((expB t).1 - (af : Int))) := by
  intro bad
  rw [f14_at447]
  cases bad with
  | true => rw [st_T, interp_ret, if_pos rfl]; rfl
  | false =>
   rw [st_F, st_IBI he, if_neg (by decide)]
   by_cases h1 : (expB t).2.2 ≠ 0
   ·rw [st_ne_t h1, interp_ret, if_pos h1]; rfl
   ·have h1' : (expB t).2.2 = 0 := by omega
    rw [st_ne_f h1', if_neg h1, dv_len]
    by_cases h2 : 60 < ds.length
    ·rw [st_t (by omega), interp_ret, if_pos h2]; rfl
    ·rw [st_f (by omega), if_neg h2]
     cases h3 : (expB t).2.1 with
     | true => rw [st_T, interp_ret, if_pos rfl]; rfl
     | false =>
      have hle := expB_le t h3
      have hN := num_all neg b ds hds (by omega) af (expB t).1 (by omega) (by omega) (by omega) ds.length 0 true [(11, 1), (5, 1)] (by omega) (Or.inl rfl)
      rw [List.take_zero, show numB [] = 0 from rfl] at hN
      unfold rpN at hN
      rw [ws_zero, Int.natCast_zero] at hN
      rw [st_F, interp_call_ret, if_neg (by decide)]
      exact hN
 unfold rpS
 rw [f14_at1567, st_F, dv_len]
 by_cases h0 : ds = []
 ·have hl0 : ((ds.length : Nat) : Int) = 0 := by rw [h0]; rfl
  rw [st_eq hl0, interp_call_ret, rest true, if_pos rfl, if_pos (Or.inl h0)]
 ·have hl0 : ((ds.length : Nat) : Int) ≠ 0 := by
   have := List.length_pos_iff.2 h0; omega
  rw [st_ne hl0]
  cases pt with
  | false => rw [st_F, interp_call_ret, rest false, if_neg (show ¬ (false = true) by decide), if_neg (show ¬ (ds = [] ∨ (false = true ∧ af = 0)) by simp [h0])]
  | true =>
   rw [st_T, interp_call_ret, rest _]
   by_cases ha : af = 0
   ·rw [if_pos (by rw [beq_iff_eq]; omega), if_pos (Or.inr ⟨rfl, ha⟩)]
   ·have hn : ¬ (ds = [] ∨ (true = true ∧ af = 0)) := by
     rintro (h | ⟨-, h⟩)
     ·exact h0 h
     ·exact ha h
    rw [if_neg (show ¬ (((af : Int) == 0) = true) by rw [beq_iff_eq]; omega), if_neg hn]
theorem rparse_ref (s : List UInt8) (hs : s.length ≤ 400) : rk Tryz.prog pol (Task.call 150 [V.d (D.s s)] []) = o2 (refB s) := by
 have main : ∀ (neg : Bool) (u : List UInt8), u.length ≤ 400 → rk Tryz.prog pol (rpL u (sgV neg) true [] false 0) = o2 (
   let q := scanB u
   if q.2.1 ++ q.2.2.2 = [] ∨ (q.2.2.1 = true ∧ q.2.2.2 = []) then (0, 2)
   else if (expB q.1).2.2 ≠ 0 then (0, (expB q.1).2.2)
   else if 60 < (q.2.1 ++ q.2.2.2).length then (0, 4)
   else if (expB q.1).2.1 = true then (0, 5)
   else outR neg (numB (q.2.1 ++ q.2.2.2)) ((expB q.1).1 - (q.2.2.2.length : Int))) := by
  intro neg u hu
  obtain ⟨b', hb⟩ := scan_all (sgV neg) u true [] (by simp; omega)
  obtain ⟨s1, s2, s3, s4⟩ := scanB_dig u
  rw [hb, List.nil_append, ref_stop neg _ b' _ s1 _ _ (by omega) (by rw [List.length_append]; omega) (by omega)]
  have e : ((scanB u).2.2.2.length = 0) = ((scanB u).2.2.2 = []) := propext List.length_eq_zero_iff
  simp only [e]
 have sgn : ∀ (neg : Bool) (c : UInt8) (r : List UInt8), (c :: r).length ≤ 400 → rk Tryz.prog pol (Task.at_ 150 0 [true, false, true, false, true, true] (sv 133 [(0, V.d (D.s (c :: r))), (4, V.d (D.i .u64 ((sgV neg : Nat) : Int)))]) [] []) = rk Tryz.prog pol (rpL r (sgV neg) true [] false 0) := by
  intro neg c r h
  rw [f14_at107, st_if (scan_le c r), scan_cut, interp_call_ret]; rfl
 rw [f14]
 unfold refB
 cases s with
 | nil =>
  rw [st_f (by decide), interp_call_ret, f14_at27, st_F, interp_call_ret]
  exact main false [] (by decide)
 | cons c r =>
  have g : getI (c :: r) 0 = some c := rfl
  have hr : r.length ≤ 400 := by simp at hs; omega
  rw [st_t (by rw [List.length_cons]; omega), st_ob g, u8_43]
  by_cases h43 : c = 43
  ·rw [st_t h43, interp_call_ret, f14_at27, st_T, st_ob g, u8_45, st_f (by rw [h43]; decide), interp_call_ret]
   have e : signB (c :: r) = (false, r) := by rw [h43]; rfl
   have := sgn false c r hs
   rw [main false r hr] at this
   rw [e]
   exact this
  ·rw [st_f h43, st_ob g, u8_45, interp_call_ret, f14_at27]
   by_cases h45 : c = 45
   ·rw [decide_eq_true h45, st_T, st_ob g, u8_45, st_t h45, interp_call_ret]
    have e : signB (c :: r) = (true, r) := by rw [h45]; rfl
    have := sgn true c r hs
    rw [main true r hr] at this
    rw [e]
    exact this
   ·rw [decide_eq_false h45, st_F, interp_call_ret]
    have e : signB (c :: r) = (false, c :: r) := by simp [signB, h43, h45]
    rw [e]
    exact main false (c :: r) hs
theorem numF_ge : ∀ (d : List UInt8) (v : Nat), v * 10 ^ d.length ≤ numF v d := by
 intro d v
 rw [numF_eq]; exact Nat.le_add_right _ _
theorem big_pow (t : Tx) (hd : ∀ c ∈ t.ex, isDig c = true) : powB t = (if 400 < numB t.ex then ((powB t).1, false) else ((if t.en = true then -(numB t.ex : Int) else (numB t.ex : Int)), true)) := by
 have hz := numB_zero_drop t.ex
 have hdd : ∀ c ∈ t.ex.dropWhile (· == 48), isDig c = true := fun c h => hd c ((List.dropWhile_sublist _).subset h)
 by_cases h3 : 3 < (t.ex.dropWhile (· == 48)).length
 ·-- four digits, the first not nought
  have hbig : 400 < numB t.ex := by
   rw [← hz]
   cases he : t.ex.dropWhile (· == 48) with
   | nil => rw [he] at h3; simp at h3
   | cons c r =>
    have hc48 : ¬ (c == 48) = true := by
     have := List.head?_dropWhile_not (fun x : UInt8 => x == 48) t.ex
     rw [he] at this
     simpa using this
    have hc := hdd c (by rw [he]; simp)
    have h1 : 1 ≤ digV c := by
     have h48 : c ≠ 48 := fun e => hc48 (by rw [e]; rfl)
     have hn : c.toNat ≠ 48 := fun e => h48 (UInt8.toNat_inj.1 e)
     have := (isDig_iff c).1 hc
     unfold digV; omega
    rw [he, List.length_cons] at h3
    have h2 := numF_ge r (0 * 10 + digV c)
    have h4 : 10 ^ 3 ≤ 10 ^ r.length := Nat.pow_le_pow_right (by decide) (by omega)
    have h5 : 1 * 10 ^ r.length ≤ (0 * 10 + digV c) * 10 ^ r.length := Nat.mul_le_mul_right _ (by omega)
    show 400 < numF (0 * 10 + digV c) r
    omega
  rw [if_pos hbig]
  have e : (powB t).2 = false := by unfold powB; rw [if_pos h3]
  exact Prod.ext rfl e
 ·unfold powB
  rw [if_neg h3]
  simp only [hz]
  by_cases hb : 400 < numB t.ex
  ·rw [if_pos hb]
   refine Prod.ext rfl ?_
   simp only
   cases t.en
   ·simp; omega
   ·simp; omega
  ·rw [if_neg hb]
   refine Prod.ext rfl ?_
   simp only
   cases t.en
   ·simp; omega
   ·simp; omega
theorem all_take {d : List UInt8} (h : d.all isDig = true) : d.takeWhile isDig = d ∧ d.dropWhile isDig = [] := by
 rw [List.all_eq_true] at h
 have h1 := takeW d [] h rfl
 have h2 := dropW d [] h rfl
 rw [List.append_nil] at h1 h2
 exact ⟨h1, h2⟩
theorem drop_all {d : List UInt8} (h : d.dropWhile isDig = []) : d.all isDig = true := by
 have h1 : d.takeWhile isDig ++ d.dropWhile isDig = d := List.takeWhile_append_dropWhile
 rw [h, List.append_nil] at h1
 rw [← h1, List.all_eq_true]
 exact take_dig d
theorem exp_fin (n : Bool) (w p t : List UInt8) (h : ¬ (w = [] ∧ p = [])) :
  ((finB n w p t).2 = false ∧ (expB t).2.2 = 2) ∨
  ((finB n w p t).2 = true ∧ (expB t).2.2 = 0 ∧ (((expB t).2.1 = true ∧ (powB (finB n w p t).1).2 = false) ∨ ((expB t).2.1 = false ∧ powB (finB n w p t).1 = ((expB t).1, true)))) := by
 unfold finB
 rw [if_neg h]
 cases t with
 | nil => exact Or.inr ⟨rfl, rfl, Or.inr ⟨rfl, rfl⟩⟩
 | cons c r =>
  by_cases h1 : c ≠ 101 ∧ c ≠ 69
  ·simp only [expB, if_pos h1]
   exact Or.inl ⟨by trivial, by trivial⟩
  ·simp only [expB, if_neg h1]
   by_cases h2 : (signB r).2 = []
   ·rw [if_pos h2, h2]
    exact Or.inl ⟨rfl, rfl⟩
   ·rw [if_neg h2]
    by_cases h3 : (signB r).2.all isDig = true
    ·obtain ⟨e1, e2⟩ := all_take h3
     rw [if_pos h3, e1, e2]
     refine Or.inr ⟨by simp [h2], rfl, ?_⟩
     rw [List.all_eq_true] at h3
     have hb := big_pow ⟨n, w, p, (signB r).1, (signB r).2⟩ h3
     have hcap : capF 0 (signB r).2 = min (numB (signB r).2) 100000 := capF_eq _ 0 0 rfl
     simp only at hb ⊢
     rw [hcap]
     by_cases hbig : 400 < numB (signB r).2
     ·rw [if_pos hbig] at hb
      refine Or.inl ⟨decide_eq_true (by omega), ?_⟩
      rw [hb]
     ·rw [if_neg hbig] at hb
      refine Or.inr ⟨decide_eq_false (by omega), ?_⟩
      rw [hb, show min (numB (signB r).2) 100000 = numB (signB r).2 by omega]
    ·rw [if_neg h3]
     refine Or.inl ⟨?_, rfl⟩
     have : (signB r).2.dropWhile isDig ≠ [] := fun e => h3 (drop_all e)
     simp [this]
theorem refB_eq (s : List UInt8) : refB s = parseB s := by
 have key : ∀ (n : Bool) (w p t : List UInt8), ¬ (w = [] ∧ p = []) →
   (if (expB t).2.2 ≠ 0 then (0, (expB t).2.2) else if 60 < (w ++ p).length then (0, 4) else if (expB t).2.1 = true then (0, 5) else outR n (numB (w ++ p)) ((expB t).1 - (p.length : Int))) =
   (if (finB n w p t).2 = false then (0, 2)
    else if 60 < (finB n w p t).1.whole.length + (finB n w p t).1.part.length then (0, 4)
    else if (powB (finB n w p t).1).2 = false then (0, 5)
    else
     let r := ratB ((powB (finB n w p t).1).1 - (finB n w p t).1.part.length) (numB ((finB n w p t).1.whole ++ (finB n w p t).1.part))
     if (bitsN r.1 r.2).2 = false then (0, 5) else (signV (finB n w p t).1.neg (bitsN r.1 r.2).1, 0)) := by
  intro n w p t h
  obtain ⟨f1, f2⟩ := finB_len n w p t
  have f3 : (finB n w p t).1.neg = n := by
   unfold finB
   split
   ·rfl
   ·split
    ·rfl
    ·split <;> rfl
  rw [f1, f2, f3, List.length_append]
  rcases exp_fin n w p t h with ⟨h1, h2⟩ | ⟨h1, h2, h3⟩
  ·rw [if_pos h1, h2]; rfl
  ·rw [h1, h2, if_neg (show ¬ ((0 : Int) ≠ 0) by decide), if_neg (show ¬ (true = false) by decide)]
   by_cases h60 : 60 < w.length + p.length
   ·rw [if_pos h60, if_pos h60]
   ·rw [if_neg h60, if_neg h60]
    rcases h3 with ⟨h3, h4⟩ | ⟨h3, h4⟩
    ·rw [if_pos h3, if_pos h4]
    ·rw [h3, h4, if_neg (show ¬ (false = true) by decide), if_neg (show ¬ (true = false) by decide)]
     rfl
 have none_ : ∀ (n : Bool) (t : List UInt8), (finB n [] [] t).2 = false := fun n t => by unfold finB; rw [if_pos ⟨rfl, rfl⟩]
 unfold refB parseB splitB
 simp only
 generalize (signB s).1 = n
 generalize (signB s).2 = u
 unfold scanB
 cases hd : u.dropWhile isDig with
 | nil =>
  simp only [List.append_nil, Bool.false_eq_true, false_and, or_false]
  by_cases hw : u.takeWhile isDig = []
  ·rw [if_pos hw, hw, if_pos (none_ n [])]
  ·rw [if_neg hw]
   have := key n (u.takeWhile isDig) [] [] (fun h => hw h.1)
   rw [List.append_nil] at this
   exact this
 | cons c r =>
  by_cases h46 : c = 46
  ·simp only [if_pos h46]
   by_cases hp : r.takeWhile isDig = []
   ·rw [if_pos (Or.inr ⟨trivial, hp⟩), if_pos hp]
    rfl
   ·have hne : ¬ (u.takeWhile isDig = [] ∧ r.takeWhile isDig = []) := fun h => hp h.2
    rw [if_neg (by rintro (h | ⟨-, h⟩); exact hne ⟨(List.append_eq_nil_iff.1 h).1, (List.append_eq_nil_iff.1 h).2⟩; exact hp h), if_neg hp]
    exact key n (u.takeWhile isDig) (r.takeWhile isDig) (r.dropWhile isDig) hne
  ·simp only [if_neg h46, List.append_nil, Bool.false_eq_true, false_and, or_false]
   by_cases hw : u.takeWhile isDig = []
   ·rw [if_pos hw, hw, if_pos (none_ n (c :: r))]
   ·rw [if_neg hw]
    have := key n (u.takeWhile isDig) [] (c :: r) (fun h => hw h.1)
    rw [List.append_nil] at this
    exact this
end Go.Dn.Dec
