/- print: which are the same. Printed by a program of mine. -/
import Derived.Test.YtbjllhjbhdjfjaaGreatDoorP6
import Derived.Test.YtbjllhjbhdjfjaaGreatDoorP4
import Derived.KernelRfl
import Derived.Test.YtbjllhjbhdjfjaaGreatDoorP8
import Derived.Test.YtbjllhjbhdjfjaaGreatDoorP9
import Derived.Test.YtbjllhjbhdjfjaaGreatDoorP10
set_option linter.unusedVariables false
set_option linter.unusedSimpArgs false
set_option linter.unusedSectionVars false
namespace Go.Dn.Dec
open Go.IntKind (i64 u64 u8 u16 i32 u32)
open Go.Proofs
theorem y69(k1 n1 u1:Int)(s1:aE)(b1:Bool)(l1:List D)(k2 n2 u2:Int)(s2:aE)(b2:Bool)(l2:List D):EQ bT (.call 69 [.d (.g [.i .i64 k1,.i .i64 n1,.i .u64 u1,.s s1,.l b1 l1]),.d (.g [.i .i64 k2,.i .i64 n2,.i .u64 u2,.s s2,.l b2 l2])] []) (aV (k1 != k2) (aR (Gj true [aC (fX s2 k2 n2 u2 b2 l2),aC (fX s1 k1 n1 u1 b1 l1)])) (aV (n1 != n2) (aR (Gj true [aC (fX s2 k2 n2 u2 b2 l2),aC (fX s1 k1 n1 u1 b1 l1)])) (aV (u1 != u2) (aR (Gj true [aC (fX s2 k2 n2 u2 b2 l2),aC (fX s1 k1 n1 u1 b1 l1)])) (aV (!s1==s2) (aR (Gj true [aC (fX s2 k2 n2 u2 b2 l2),aC (fX s1 k1 n1 u1 b1 l1)])) (aR (Gj ((l1.length:Int) != (l2.length:Int)) [aC (fX s2 k2 n2 u2 b2 l2),aC (fX s1 k1 n1 u1 b1 l1)])))))):=aF
theorem y36(kd1:Int)(nm1 ty1:aE)(ck1 cn1 cu1:Int)(cs1:aE)(cb1:Bool)(cl1:List D)(fb1:Bool)(fl1:List D)(mb1:Bool)(ml1:List D)(ex1:aE)(tb1:Bool)(tl1:List D)(kd2:Int)(nm2 ty2:aE)(ck2 cn2 cu2:Int)(cs2:aE)(cb2:Bool)(cl2:List D)(fb2:Bool)(fl2:List D)(mb2:Bool)(ml2:List D)(ex2:aE)(tb2:Bool)(tl2:List D):EQ bT (.call 36 [.d (.g [.i .i64 kd1,.s nm1,.s ty1,.i .i64 ck1,.i .i64 cn1,.i .u64 cu1,.s cs1,.l cb1 cl1,.l fb1 fl1,.l mb1 ml1,.s ex1,.l tb1 tl1]),.d (.g [.i .i64 kd2,.s nm2,.s ty2,.i .i64 ck2,.i .i64 cn2,.i .u64 cu2,.s cs2,.l cb2 cl2,.l fb2 fl2,.l mb2 ml2,.s ex2,.l tb2 tl2])] []) (aV (kd1 != kd2) (aR (SH true [aC (dp nm2 ty2 cs2 ex2 kd2 ck2 cn2 cu2 cb2 fb2 mb2 tb2 cl2 fl2 ml2 tl2),aC (dp nm1 ty1 cs1 ex1 kd1 ck1 cn1 cu1 cb1 fb1 mb1 tb1 cl1 fl1 ml1 tl1)])) (aV (!nm1==nm2) (aR (SH true [aC (dp nm2 ty2 cs2 ex2 kd2 ck2 cn2 cu2 cb2 fb2 mb2 tb2 cl2 fl2 ml2 tl2),aC (dp nm1 ty1 cs1 ex1 kd1 ck1 cn1 cu1 cb1 fb1 mb1 tb1 cl1 fl1 ml1 tl1)])) (aV (!ty1==ty2) (aR (SH true [aC (dp nm2 ty2 cs2 ex2 kd2 ck2 cn2 cu2 cb2 fb2 mb2 tb2 cl2 fl2 ml2 tl2),aC (dp nm1 ty1 cs1 ex1 kd1 ck1 cn1 cu1 cb1 fb1 mb1 tb1 cl1 fl1 ml1 tl1)])) (cV (.call 69 [.d (.g [.i .i64 ck1,.i .i64 cn1,.i .u64 cu1,.s cs1,.l cb1 cl1]),.d (.g [.i .i64 ck2,.i .i64 cn2,.i .u64 cu2,.s cs2,.l cb2 cl2])] []) λ a=>aB a λ c=>aV (!c) (aR (SH true [aC (dp nm2 ty2 cs2 ex2 kd2 ck2 cn2 cu2 cb2 fb2 mb2 tb2 cl2 fl2 ml2 tl2),aC (dp nm1 ty1 cs1 ex1 kd1 ck1 cn1 cu1 cb1 fb1 mb1 tb1 cl1 fl1 ml1 tl1)])) (cV (.call 70 [vl fb1 fl1,vl fb2 fl2] []) λ e=>aB e λ f=>aV (!f) (aR (SH true [aC (dp nm2 ty2 cs2 ex2 kd2 ck2 cn2 cu2 cb2 fb2 mb2 tb2 cl2 fl2 ml2 tl2),aC (dp nm1 ty1 cs1 ex1 kd1 ck1 cn1 cu1 cb1 fb1 mb1 tb1 cl1 fl1 ml1 tl1)])) (aV (!ex1==ex2) (aR (SH true [aC (dp nm2 ty2 cs2 ex2 kd2 ck2 cn2 cu2 cb2 fb2 mb2 tb2 cl2 fl2 ml2 tl2),aC (dp nm1 ty1 cs1 ex1 kd1 ck1 cn1 cu1 cb1 fb1 mb1 tb1 cl1 fl1 ml1 tl1)])) (aV ((ml1.length:Int) != (ml2.length:Int)) (aR (SH true [aC (dp nm2 ty2 cs2 ex2 kd2 ck2 cn2 cu2 cb2 fb2 mb2 tb2 cl2 fl2 ml2 tl2),aC (dp nm1 ty1 cs1 ex1 kd1 ck1 cn1 cu1 cb1 fb1 mb1 tb1 cl1 fl1 ml1 tl1)])) (aR (SH ((tl1.length:Int) != (tl2.length:Int)) [aC (dp nm2 ty2 cs2 ex2 kd2 ck2 cn2 cu2 cb2 fb2 mb2 tb2 cl2 fl2 ml2 tl2),aC (dp nm1 ty1 cs1 ex1 kd1 ck1 cn1 cu1 cb1 fb1 mb1 tb1 cl1 fl1 ml1 tl1)]))))))))):=aF
theorem y15(ib1:Bool)(il1:List D)(sb1:Bool)(sl1:List D)(db1:Bool)(dl1:List D)(ib2:Bool)(il2:List D)(sb2:Bool)(sl2:List D)(db2:Bool)(dl2:List D):EQ bT (.call 15 [.d (.g [.l ib1 il1,.l sb1 sl1,.l db1 dl1]),.d (.g [.l ib2 il2,.l sb2 sl2,.l db2 dl2])] []) (aV ((il1.length:Int) != (il2.length:Int)) (aR (Of true [aC (fI ib2 sb2 db2 il2 sl2 dl2),aC (fI ib1 sb1 db1 il1 sl1 dl1)])) (aV ((sl1.length:Int) != (sl2.length:Int)) (aR (Of true [aC (fI ib2 sb2 db2 il2 sl2 dl2),aC (fI ib1 sb1 db1 il1 sl1 dl1)])) (aR (Of ((dl1.length:Int) != (dl2.length:Int)) [aC (fI ib2 sb2 db2 il2 sl2 dl2),aC (fI ib1 sb1 db1 il1 sl1 dl1)])))):=aF
theorem y70(b:Bool)(l:List D)(c:Bool)(m:List D):EQ bT (.call 70 [vl b l,vl c m] []) (aV ((l.length:Int) != (m.length:Int)) (.ret (vb false,[])) (aR (Ly 0 b c l m []))):=aF
theorem GO(b0:Bool)(n1 n2 n3:Int)(l4:aE)(b5:Bool)(l6:List D)(n7 n8 n9:Int)(l10:aE)(b11:Bool)(l12:List D):EQ bT (Gj b0 [aC (fX l4 n1 n2 n3 b5 l6),aC (fX l10 n7 n8 n9 b11 l12)]) (aV b0 (.ret (vb false,[])) (aR (KV 0 [aC (fX l4 n1 n2 n3 b5 l6),aC (fX l10 n7 n8 n9 b11 l12)]))):=aF
theorem GH(b0:Bool)(n1:Int)(l2 l3:aE)(n4 n5 n6:Int)(l7:aE)(b8:Bool)(l9:List D)(b10:Bool)(l11:List D)(b12:Bool)(l13:List D)(l14:aE)(b15:Bool)(l16:List D)(n17:Int)(l18 l19:aE)(n20 n21 n22:Int)(l23:aE)(b24:Bool)(l25:List D)(b26:Bool)(l27:List D)(b28:Bool)(l29:List D)(l30:aE)(b31:Bool)(l32:List D):EQ bT (SH b0 [aC (dp l2 l3 l7 l14 n1 n4 n5 n6 b8 b10 b12 b15 l9 l11 l13 l16),aC (dp l18 l19 l23 l30 n17 n20 n21 n22 b24 b26 b28 b31 l25 l27 l29 l32)]) (aV b0 (.ret (vb false,[])) (aR (KP 0 [aC (dp l2 l3 l7 l14 n1 n4 n5 n6 b8 b10 b12 b15 l9 l11 l13 l16),aC (dp l18 l19 l23 l30 n17 n20 n21 n22 b24 b26 b28 b31 l25 l27 l29 l32)]))):=aF
theorem GB(b0 b1:Bool)(l2:List D)(b3:Bool)(l4:List D)(b5:Bool)(l6:List D)(b7:Bool)(l8:List D)(b9:Bool)(l10:List D)(b11:Bool)(l12:List D):EQ bT (Of b0 [aC (fI b1 b3 b5 l2 l4 l6),aC (fI b7 b9 b11 l8 l10 l12)]) (aV b0 (.ret (vb false,[])) (aR (KW 0 [aC (fI b1 b3 b5 l2 l4 l6),aC (fI b7 b9 b11 l8 l10 l12)]))):=aF
theorem GQ(b0:Bool)(l1:List D)(b2:Bool)(l3:List D)(n4:Int):EQ bT (Ly n4 b0 b2 l1 l3 []) (aV (decide (n4<(l1.length:Int))) (eL l1 n4 11 λ a=>eL l3 n4 11 λ c=>aO ([.d (gD 11 0 a 0),.d (gD 11 0 a 1),.d (gD 11 0 a 2),.d (gD 11 0 a 3),.d (gD 11 0 a 4),.d (gD 11 0 a 5),.d (gD 11 0 a 6),.d (gD 11 0 a 7),.d (gD 11 0 a 8),.d (gD 11 0 a 9),.d (gD 11 0 a 10)].all V.one) (aO ([.d (gD 11 0 c 0),.d (gD 11 0 c 1),.d (gD 11 0 c 2),.d (gD 11 0 c 3),.d (gD 11 0 c 4),.d (gD 11 0 c 5),.d (gD 11 0 c 6),.d (gD 11 0 c 7),.d (gD 11 0 c 8),.d (gD 11 0 c 9),.d (gD 11 0 c 10)].all V.one) (jz (gD 11 0 a 0) λ e=>jz (gD 11 0 c 0) λ f=>aV (!e==f) (aR (Vw n4 b0 b2 true l1 l3 [])) (cf .i64 (gD 11 0 a 1) λ h=>cf .i64 (gD 11 0 c 1) λ j=>aV (h != j) (aR (Vw n4 b0 b2 true l1 l3 [])) (cf .i64 (gD 11 0 a 2) λ k=>cf .i64 (gD 11 0 c 2) λ m=>aV (k != m) (aR (Vw n4 b0 b2 true l1 l3 [])) (fJ (gD 11 0 a 3) λ n=>fJ (gD 11 0 c 3) λ o=>aV (!n==o) (aR (Vw n4 b0 b2 true l1 l3 [])) (fJ (gD 11 0 a 4) λ p=>fJ (gD 11 0 c 4) λ q=>aV (!p==q) (aR (Vw n4 b0 b2 true l1 l3 [])) (jz (gD 11 0 a 5) λ r=>jz (gD 11 0 c 5) λ s=>aV (!r==s) (aR (Vw n4 b0 b2 true l1 l3 [])) (cV (.call 69 [.d (.g [gD 11 0 a 6,gD 11 0 a 7,gD 11 0 a 8,gD 11 0 a 9,gD 11 0 a 10]),.d (.g [gD 11 0 c 6,gD 11 0 c 7,gD 11 0 c 8,gD 11 0 c 9,gD 11 0 c 10])] []) λ t=>aB t λ zu=>aR (.at_ 70 0 (aJ 3659) (sv 75 [(0,vl b0 l1),(1,vl b2 l3),(5,vi n4),(74,vb !zu)]) [] [])))))))))) (.ret (vb true,[]))):=aF
theorem GP(n0 n1 n2 n3:Int)(l4:aE)(b5:Bool)(l6:List D)(n7 n8 n9:Int)(l10:aE)(b11:Bool)(l12:List D):EQ bT (KV n0 [aC (fX l4 n1 n2 n3 b5 l6),aC (fX l10 n7 n8 n9 b11 l12)]) (aV (decide (n0<(l12.length:Int))) (eL l12 n0 5 λ a=>eL l6 n0 5 λ c=>cV (.call 69 [.d (.g [gD 5 0 a 0,gD 5 0 a 1,gD 5 0 a 2,gD 5 0 a 3,gD 5 0 a 4]),.d (.g [gD 5 0 c 0,gD 5 0 c 1,gD 5 0 c 2,gD 5 0 c 3,gD 5 0 c 4])] []) λ e=>aB e λ f=>aV (!f) (.ret (vb false,[])) (aR (KV (i64.wrap (n0+1)) [aC (fX l4 n1 n2 n3 b5 l6),aC (fX l10 n7 n8 n9 b11 l12)]))) (.ret (vb true,[]))):=aF
theorem GI(n0 n1:Int)(l2 l3:aE)(n4 n5 n6:Int)(l7:aE)(b8:Bool)(l9:List D)(b10:Bool)(l11:List D)(b12:Bool)(l13:List D)(l14:aE)(b15:Bool)(l16:List D)(n17:Int)(l18 l19:aE)(n20 n21 n22:Int)(l23:aE)(b24:Bool)(l25:List D)(b26:Bool)(l27:List D)(b28:Bool)(l29:List D)(l30:aE)(b31:Bool)(l32:List D):EQ bT (KP n0 [aC (dp l2 l3 l7 l14 n1 n4 n5 n6 b8 b10 b12 b15 l9 l11 l13 l16),aC (dp l18 l19 l23 l30 n17 n20 n21 n22 b24 b26 b28 b31 l25 l27 l29 l32)]) (aV (decide (n0<(l29.length:Int))) (eL l29 n0 3 λ a=>eL l13 n0 3 λ c=>ob (TA [3,1,2] (.d (.g [gD 3 0 a 0,gD 3 0 a 1,gD 3 0 a 2])) (.d (.g [gD 3 0 c 0,gD 3 0 c 1,gD 3 0 c 2]))) λ e=>aV (!e) (.ret (vb false,[])) (aR (KP (i64.wrap (n0+1)) [aC (dp l2 l3 l7 l14 n1 n4 n5 n6 b8 b10 b12 b15 l9 l11 l13 l16),aC (dp l18 l19 l23 l30 n17 n20 n21 n22 b24 b26 b28 b31 l25 l27 l29 l32)]))) (aR (KQ 0 [aC (dp l2 l3 l7 l14 n1 n4 n5 n6 b8 b10 b12 b15 l9 l11 l13 l16),aC (dp l18 l19 l23 l30 n17 n20 n21 n22 b24 b26 b28 b31 l25 l27 l29 l32)]))):=aF
theorem GC(n0:Int)(b1:Bool)(l2:List D)(b3:Bool)(l4:List D)(b5:Bool)(l6:List D)(b7:Bool)(l8:List D)(b9:Bool)(l10:List D)(b11:Bool)(l12:List D):EQ bT (KW n0 [aC (fI b1 b3 b5 l2 l4 l6),aC (fI b7 b9 b11 l8 l10 l12)]) (aV (decide (n0<(l8.length:Int))) (eC l8 n0 1 0 λ a=>fJ a λ c=>eC l2 n0 1 0 λ e=>fJ e λ f=>aV (!c==f) (.ret (vb false,[])) (aR (KW (i64.wrap (n0+1)) [aC (fI b1 b3 b5 l2 l4 l6),aC (fI b7 b9 b11 l8 l10 l12)]))) (aR (KX 0 [aC (fI b1 b3 b5 l2 l4 l6),aC (fI b7 b9 b11 l8 l10 l12)]))):=aF
theorem zk(b0:Bool)(l1:List D)(b2:Bool)(l3:List D)(n4:Int)(b5:Bool):EQ bT (Vw n4 b0 b2 b5 l1 l3 []) (aV b5 (.ret (vb false,[])) (aR (Ly (i64.wrap (n4+1)) b0 b2 l1 l3 []))):=aF
theorem GJ(n0 n1:Int)(l2 l3:aE)(n4 n5 n6:Int)(l7:aE)(b8:Bool)(l9:List D)(b10:Bool)(l11:List D)(b12:Bool)(l13:List D)(l14:aE)(b15:Bool)(l16:List D)(n17:Int)(l18 l19:aE)(n20 n21 n22:Int)(l23:aE)(b24:Bool)(l25:List D)(b26:Bool)(l27:List D)(b28:Bool)(l29:List D)(l30:aE)(b31:Bool)(l32:List D):EQ bT (KQ n0 [aC (dp l2 l3 l7 l14 n1 n4 n5 n6 b8 b10 b12 b15 l9 l11 l13 l16),aC (dp l18 l19 l23 l30 n17 n20 n21 n22 b24 b26 b28 b31 l25 l27 l29 l32)]) (aV (decide (n0<(l32.length:Int))) (eL l32 n0 5 λ a=>eL l16 n0 5 λ c=>aO ([.d (gD 5 0 a 0),.d (gD 5 0 a 1),.d (gD 5 0 a 2),.d (gD 5 0 a 3),.d (gD 5 0 a 4)].all V.one) (aO ([.d (gD 5 0 c 0),.d (gD 5 0 c 1),.d (gD 5 0 c 2),.d (gD 5 0 c 3),.d (gD 5 0 c 4)].all V.one) (fJ (gD 5 0 a 0) λ e=>fJ (gD 5 0 c 0) λ f=>aV (!e==f) (aR (IT n0 true [aC (dp l2 l3 l7 l14 n1 n4 n5 n6 b8 b10 b12 b15 l9 l11 l13 l16),aC (dp l18 l19 l23 l30 n17 n20 n21 n22 b24 b26 b28 b31 l25 l27 l29 l32)])) (jz (gD 5 0 a 1) λ g=>jz (gD 5 0 c 1) λ h=>aV (!g==h) (aR (IT n0 true [aC (dp l2 l3 l7 l14 n1 n4 n5 n6 b8 b10 b12 b15 l9 l11 l13 l16),aC (dp l18 l19 l23 l30 n17 n20 n21 n22 b24 b26 b28 b31 l25 l27 l29 l32)])) (fJ (gD 5 0 a 2) λ j=>fJ (gD 5 0 c 2) λ k=>aV (!j==k) (aR (IT n0 true [aC (dp l2 l3 l7 l14 n1 n4 n5 n6 b8 b10 b12 b15 l9 l11 l13 l16),aC (dp l18 l19 l23 l30 n17 n20 n21 n22 b24 b26 b28 b31 l25 l27 l29 l32)])) (cV (.call 70 [.d (gD 5 0 a 3),.d (gD 5 0 c 3)] []) λ m=>aB m λ n=>aV (!n) (aR (IT n0 true [aC (dp l2 l3 l7 l14 n1 n4 n5 n6 b8 b10 b12 b15 l9 l11 l13 l16),aC (dp l18 l19 l23 l30 n17 n20 n21 n22 b24 b26 b28 b31 l25 l27 l29 l32)])) (cV (.call 70 [.d (gD 5 0 a 4),.d (gD 5 0 c 4)] []) λ o=>aB o λ q=>aR (.at_ 36 0 (aJ 7319) (sv 139 [(2,.p 0 0),(3,.p 1 0),(6,vi n0),(138,vb !q)]) [] [aC (dp l2 l3 l7 l14 n1 n4 n5 n6 b8 b10 b12 b15 l9 l11 l13 l16),aC (dp l18 l19 l23 l30 n17 n20 n21 n22 b24 b26 b28 b31 l25 l27 l29 l32)])))))))) (.ret (vb true,[]))):=aF
theorem GD(n0:Int)(b1:Bool)(l2:List D)(b3:Bool)(l4:List D)(b5:Bool)(l6:List D)(b7:Bool)(l8:List D)(b9:Bool)(l10:List D)(b11:Bool)(l12:List D):EQ bT (KX n0 [aC (fI b1 b3 b5 l2 l4 l6),aC (fI b7 b9 b11 l8 l10 l12)]) (aV (decide (n0<(l10.length:Int))) (eL l10 n0 2 λ a=>eL l4 n0 2 λ c=>ob (TA [3,3] (.d (.g [gD 2 0 a 0,gD 2 0 a 1])) (.d (.g [gD 2 0 c 0,gD 2 0 c 1]))) λ e=>aV (!e) (.ret (vb false,[])) (aR (KX (i64.wrap (n0+1)) [aC (fI b1 b3 b5 l2 l4 l6),aC (fI b7 b9 b11 l8 l10 l12)]))) (aR (KR 0 [aC (fI b1 b3 b5 l2 l4 l6),aC (fI b7 b9 b11 l8 l10 l12)]))):=aF
theorem zj(n0:Int)(b1:Bool)(n2:Int)(l3 l4:aE)(n5 n6 n7:Int)(l8:aE)(b9:Bool)(l10:List D)(b11:Bool)(l12:List D)(b13:Bool)(l14:List D)(l15:aE)(b16:Bool)(l17:List D)(n18:Int)(l19 l20:aE)(n21 n22 n23:Int)(l24:aE)(b25:Bool)(l26:List D)(b27:Bool)(l28:List D)(b29:Bool)(l30:List D)(l31:aE)(b32:Bool)(l33:List D):EQ bT (IT n0 b1 [aC (dp l3 l4 l8 l15 n2 n5 n6 n7 b9 b11 b13 b16 l10 l12 l14 l17),aC (dp l19 l20 l24 l31 n18 n21 n22 n23 b25 b27 b29 b32 l26 l28 l30 l33)]) (aV b1 (.ret (vb false,[])) (aR (KQ (i64.wrap (n0+1)) [aC (dp l3 l4 l8 l15 n2 n5 n6 n7 b9 b11 b13 b16 l10 l12 l14 l17),aC (dp l19 l20 l24 l31 n18 n21 n22 n23 b25 b27 b29 b32 l26 l28 l30 l33)]))):=aF
theorem BS(n0:Int)(b1:Bool)(l2:List D)(b3:Bool)(l4:List D)(b5:Bool)(l6:List D)(b7:Bool)(l8:List D)(b9:Bool)(l10:List D)(b11:Bool)(l12:List D):EQ bT (KR n0 [aC (fI b1 b3 b5 l2 l4 l6),aC (fI b7 b9 b11 l8 l10 l12)]) (aV (decide (n0<(l12.length:Int))) (eL l12 n0 12 λ a=>eL l6 n0 12 λ c=>cV (.call 36 [.d (.g [gD 12 0 a 0,gD 12 0 a 1,gD 12 0 a 2,gD 12 0 a 3,gD 12 0 a 4,gD 12 0 a 5,gD 12 0 a 6,gD 12 0 a 7,gD 12 0 a 8,gD 12 0 a 9,gD 12 0 a 10,gD 12 0 a 11]),.d (.g [gD 12 0 c 0,gD 12 0 c 1,gD 12 0 c 2,gD 12 0 c 3,gD 12 0 c 4,gD 12 0 c 5,gD 12 0 c 6,gD 12 0 c 7,gD 12 0 c 8,gD 12 0 c 9,gD 12 0 c 10,gD 12 0 c 11])] []) λ e=>aB e λ f=>aV (!f) (.ret (vb false,[])) (aR (KR (i64.wrap (n0+1)) [aC (fI b1 b3 b5 l2 l4 l6),aC (fI b7 b9 b11 l8 l10 l12)]))) (.ret (vb true,[]))):=aF
section
variable {f : Task → Option Out}
theorem de{c e:Bool}{X Y:Tr}(hx:c=true->aD f X=some (.d (.b false),[]))(hy:c=false->aD f Y=some (.d (.b e),[])):aD f (aV c X Y)=some (.d (.b (!c&&e)),[]):=by
 cases c with
 |true=>rw[bQ,hx rfl];rfl
 |false=>rw[bH,hy rfl];rfl
theorem yG{t:Task}{b e:Bool}{K:Bool->Tr}(h:f t=some (.d (.b b),[]))(hk:aD f (K b)=some (.d (.b e),[])):
  aD f (.call t λ o=>aO o.snd.isEmpty (bG o.fst λ d=>jz d λ x=>K x))=some (.d (.b e),[]):=(gJ h).trans hk
end
theorem OQ(n:Int)(K:Int->Tr):cf .i64 (.i .i64 n) K=K n:=rfl
theorem qQ{f:Task->Option Out}{T:Tr}{a b:Bool}(h:aD f T=some (.d (.b a),[]))(e:a=b):aD f T=some (.d (.b b),[]):=e▸h
def BX(k:Nat)(W:D->Prop)(eq:D->D->Bool):Prop:=∀x y,W x->W y->RY (.call k [V.d x,V.d y] [])=some (.d (.b (eq x y)),[])
theorem qq{g:D->D->Bool}:∀{l m:List D},l.length≠m.length->kV g l m=false
 | [],[],h=>absurd rfl h
 | [],_::_,_=>rfl
 |_::_,[],_=>rfl
 |a::l,b::m,h=>by
  have:l.length≠m.length:=λ e=>h (by simp[e]);simp only[kV,qq this,Bool.and_false]
theorem DZ:∀l m:List D,zt l m=kV OD l m
 | [],[]=>by simp only[zt,kV]
 | [],_::_=>by simp only[zt,kV]
 |_::_,[]=>by simp only[zt,kV]
 |a::l,b::m=>by simp only[zt,kV,DZ l m]
theorem kT(a b:Nat):((a:Int) != (b:Int)) = !(a==b):=by
 by_cases h:a=b
 ·subst h;simp
 ·have h1:(a==b)=false:=abr.2 h;have h2:((a:Int)==(b:Int))=false:=abr.2 (by omega);simp only[bne,h1,h2]
theorem Cf{g:D->D->Bool}(l m:List D):(l.length==m.length&&kV g l m)=kV g l m:=by
 by_cases h:l.length=m.length
 ·simp[h]
 ·rw[qq h,Bool.and_false]
theorem Th{x:D}(h:zP x):x.width=5:=by obtain⟨_,_,_,_,_,_,_,rfl,_⟩:=h;rfl
theorem WG{x:D}(h:WD x):x.width=12:=by obtain⟨_,_,_,_,_,_,_,_,_,_,_,_,_,_,_,_,rfl,_⟩:=h;rfl
theorem BN{x:D}(h:WF x):x.width=11:=by obtain⟨_,_,_,_,_,_,_,_,_,_,_,_,rfl,_⟩:=h;rfl
theorem yq{d:Nat}(hC:BX 69 (WC d) OD)(k n u:Int)(s:aE)(b:Bool)(l:List D)(k' n' u':Int)(s':aE)(b':Bool)(m:List D)(hl:∀y∈l,WC d y)(hm:∀y∈m,WC d y)(hll:l.length<=1000):∀(r q p z:List D),p++r=l->z++q=m->p.length=z.length->r.length=q.length->
  RY (KV (p.length:Int) [cO k' n' u' s' b' m,cO k n u s b l])=some (.d (.b (kV OD r q)),[])
 | [],[],p,z,e1,e2,h1,h2=>by
  rw[abo]at e1;subst e1;rw[RY,GP,bB];rfl
 | [],_::_,p,z,e1,e2,h1,h2=>by simp at h2
 |_::_,[],p,z,e1,e2,h1,h2=>by simp at h2
 |x::r,y::q,p,z,e1,e2,h1,h2=>by
  have hlen:l.length=p.length+(r.length+1):=by rw[<-e1];simp
  have w1:=ca p.length;have hx:=hl x (by rw[<-e1];simp);have hy:=hm y (by rw[<-e2];simp);have g1:l[p.length]?=some x:=by rw[<-e1];simp
  have g2:m[p.length]?=some y:=by rw[<-e2,h1];simp
  have ih:=yq hC k n u s b l k' n' u' s' b' m hl hm hll r q (p++[x]) (z++[y]) (by rw[<-e1];simp) (by rw[<-e2];simp) (by simp[h1]) (by simpa using h2);rw[show (p++[x]).length=p.length+1 by simp]at ih;have hc:=hC x y hx hy;rw[RY,GP,bC];refine(j0 g1 (nD hx)).trans ?_;refine(j0 g2 (nD hy)).trans ?_
  cases d with
  |zero=>exact hx.elim
  |succ d=>
  obtain⟨_,_,_,_,_,_,rfl,_⟩:=hx;obtain⟨_,_,_,_,_,_,rfl,_⟩:=hy;refine yG hc ?_;rw[w1];refine qQ (de (λ _=>rfl) (λ _=>aM ih)) ?_;simp only[Bool.not_not,kV]
theorem gm{f:Task->Option Out}{t:Task}{b:Bool}(h:f t=some (.d (.b b),[])):aD f (.call t .ret)=some (.d (.b b),[]):=aM h
theorem pW:∀d,BX 69 (WC d) OD
 |0=>λ x y h=>h.elim
 |d+1=>λ x y hx hy=>by
  obtain⟨k,n,u,s,b,l,rfl,h1,h2,h3,h4,h5,h6⟩:=hx;obtain⟨k',n',u',s',b',l',rfl,i1,i2,i3,i4,i5,i6⟩:=hy;have t13:RY (Gj true [cO k' n' u' s' b' l',cO k n u s b l])=some (.d (.b false),[]):=by rw[RY,GO,bQ];rfl
  have f13:RY (Gj ((l.length:Int) != (l'.length:Int)) [cO k' n' u' s' b' l',cO k n u s b l])=some (.d (.b (kV OD l l')),[]):=by
   rw[RY,GO];by_cases h:l.length=l'.length
   ·rw[cX (by rw[kT];simp[h])]
    exact aM (yq (pW d) k n u s b l k' n' u' s' b' l' (λ y hy=>(h6 y hy).1) (λ y hy=>(i6 y hy).1) (by omega) l l' [] [] rfl rfl rfl h)
   ·rw[eH (by rw[kT];simp[h]),qq h];rfl
  rw[RY,y69];refine qQ (de (λ _=>gm t13) λ _=>de (λ _=>gm t13) λ _=>de (λ _=>gm t13) λ _=>de (λ _=>gm t13) λ _=>gm f13) ?_;simp only[OD,DZ,bne,Bool.not_not]
theorem tq(l m:List D)(b c:Bool)(hl:∀y∈l,WF y)(hm:∀y∈m,WF y)(hll:l.length<=1000):∀(r q p z:List D),p++r=l->z++q=m->p.length=z.length->r.length=q.length->
  RY (Ly (p.length:Int) b c l m [])=some (.d (.b (kV T6 r q)),[])
 | [],[],p,z,e1,e2,h1,h2=>by
  rw[abo]at e1;subst e1;rw[RY,GQ,bB];rfl
 | [],_::_,p,z,e1,e2,h1,h2=>by simp at h2
 |_::_,[],p,z,e1,e2,h1,h2=>by simp at h2
 |x::r,y::q,p,z,e1,e2,h1,h2=>by
  have hlen:l.length=p.length+(r.length+1):=by rw[<-e1];simp
  have w1:=ca p.length;have hx:=hl x (by rw[<-e1];simp);have hy:=hm y (by rw[<-e2];simp);have g1:l[p.length]?=some x:=by rw[<-e1];simp
  have g2:m[p.length]?=some y:=by rw[<-e2,h1];simp
  have ih:=tq l m b c hl hm hll r q (p++[x]) (z++[y]) (by rw[<-e1];simp) (by rw[<-e2];simp) (by simp[h1]) (by simpa using h2);rw[show (p++[x]).length=p.length+1 by simp]at ih;have t59:RY (Vw (p.length:Int) b c true l m [])=some (.d (.b false),[]):=by rw[RY,zk,bQ];rfl
  have f59:∀e:Bool,RY (Vw (p.length:Int) b c (!e) l m [])=some (.d (.b (e&&kV T6 r q)),[]):=by
   intro e;rw[RY,zk,w1]
   cases e with
   |true=>rw[mr];exact aM ih
   |false=>rw[kX];rfl
  rw[RY,GQ,bC];refine(j0 g1 (BN hx)).trans ?_;refine(j0 g2 (BN hy)).trans ?_;obtain⟨h,id,r',t,nm,hi,k,n,u,s,b1,l1,rfl,_,_,_,_,hw⟩:=hx;obtain⟨h',id',r2,t',nm',hi',k',n',u',s',b2,l2,rfl,_,_,_,_,hw'⟩:=hy;refine aQ.trans ?_;refine aQ.trans ?_;have hc:=pW qS _ _ hw hw';dsimp only[gD,D.cells,List.drop,List.take,List.getD_cons_zero,List.getD_cons_succ,wP,sn,OQ];refine qQ (de (λ _=>gm t59) λ _=>de (λ _=>gm t59) λ _=>de (λ _=>gm t59) λ _=>de (λ _=>gm t59) λ _=>de (λ _=>gm t59) λ _=>de (λ _=>gm t59) λ _=>yG hc (gm (f59 _))) ?_;simp only[kV,T6,bne,Bool.not_not,Bool.and_assoc]
theorem oB(l m:List D)(b c:Bool)(hl:∀y∈l,WF y)(hm:∀y∈m,WF y)(hll:l.length<=1000):RY (.call 70 [vl b l,vl c m] [])=some (.d (.b (kV T6 l m)),[]):=by
 rw[RY,y70];by_cases h:l.length=m.length
 ·rw[eN (by omega)]
  exact aM (tq l m b c hl hm hll l m [] [] rfl rfl rfl h)
 ·rw[fj (by omega),qq h];rfl
theorem QR(kd:Int)(nm:aE)(ty:aE)(ck:Int)(cn:Int)(cu:Int)(cs:aE)(cb:Bool)(cl:List D)(fb:Bool)(fl:List D)(mb:Bool)(ml:List D)(ex:aE)(tb:Bool)(tl:List D)(kd1:Int)(nm1:aE)(ty1:aE)(ck1:Int)(cn1:Int)(cu1:Int)(cs1:aE)(cb1:Bool)(cl1:List D)(fb1:Bool)(fl1:List D)(mb1:Bool)(ml1:List D)(ex1:aE)(tb1:Bool)(tl1:List D)(hl:∀y∈tl,zP y)(hm:∀y∈tl1,zP y)(hll:tl.length<=1000):∀(r q p z:List D),p++r=tl->z++q=tl1->p.length=z.length->r.length=q.length->
  RY (KQ (p.length:Int) [dO kd1 nm1 ty1 ck1 cn1 cu1 cs1 cb1 cl1 fb1 fl1 mb1 ml1 ex1 tb1 tl1,dO kd nm ty ck cn cu cs cb cl fb fl mb ml ex tb tl])=some (.d (.b (kV D0 r q)),[])
 | [],[],p,z,e1,e2,h1,h2=>by
  rw[abo]at e1;subst e1;rw[RY,GJ,bB];rfl
 | [],_::_,p,z,e1,e2,h1,h2=>by simp at h2
 |_::_,[],p,z,e1,e2,h1,h2=>by simp at h2
 |x::r,y::q,p,z,e1,e2,h1,h2=>by
  have hlen:tl.length=p.length+(r.length+1):=by rw[<-e1];simp
  have w1:=ca p.length;have hx:=hl x (by rw[<-e1];simp);have hy:=hm y (by rw[<-e2];simp);have g1:tl[p.length]?=some x:=by rw[<-e1];simp
  have g2:tl1[p.length]?=some y:=by rw[<-e2,h1];simp
  have ih:=QR kd nm ty ck cn cu cs cb cl fb fl mb ml ex tb tl kd1 nm1 ty1 ck1 cn1 cu1 cs1 cb1 cl1 fb1 fl1 mb1 ml1 ex1 tb1 tl1 hl hm hll r q (p++[x]) (z++[y]) (by rw[<-e1];simp) (by rw[<-e2];simp) (by simp[h1]) (by simpa using h2);rw[show (p++[x]).length=p.length+1 by simp]at ih;have t59:RY (IT (p.length:Int) true [dO kd1 nm1 ty1 ck1 cn1 cu1 cs1 cb1 cl1 fb1 fl1 mb1 ml1 ex1 tb1 tl1,dO kd nm ty ck cn cu cs cb cl fb fl mb ml ex tb tl])=some (.d (.b false),[]):=by rw[RY,zj,bQ];rfl
  have f59:∀e:Bool,RY (IT (p.length:Int) (!e) [dO kd1 nm1 ty1 ck1 cn1 cu1 cs1 cb1 cl1 fb1 fl1 mb1 ml1 ex1 tb1 tl1,dO kd nm ty ck cn cu cs cb cl fb fl mb ml ex tb tl])=some (.d (.b (e&&kV D0 r q)),[]):=by
   intro e;rw[RY,zj,w1]
   cases e with
   |true=>rw[mr];exact aM ih
   |false=>rw[kX];rfl
  rw[RY,GJ,bC];refine(j0 g1 (Th hx)).trans ?_;refine(j0 g2 (Th hy)).trans ?_;obtain⟨xnm,xow,xret,xab,xal,xtb,xtl,rfl,_,_,h3,h4,h5,h6⟩:=hx;obtain⟨ynm,yow,yret,yab,yal,ytb,ytl,rfl,_,_,i3,i4,i5,i6⟩:=hy;refine aQ.trans ?_;refine aQ.trans ?_;have c1:=oB xal yal xab yab h5 i5 (by omega);have c2:=oB xtl ytl xtb ytb h6 i6 (by omega);dsimp only[gD,D.cells,List.drop,List.take,List.getD_cons_zero,List.getD_cons_succ,wP,sn,OQ];refine qQ (de (λ _=>gm t59) λ _=>de (λ _=>gm t59) λ _=>de (λ _=>gm t59) λ _=>yG c1 (de (λ _=>gm t59) λ _=>yG c2 (gm (f59 _)))) ?_;simp only[kV,D0,Bool.not_not,Bool.and_assoc]
theorem QQ(kd:Int)(nm:aE)(ty:aE)(ck:Int)(cn:Int)(cu:Int)(cs:aE)(cb:Bool)(cl:List D)(fb:Bool)(fl:List D)(mb:Bool)(ml:List D)(ex:aE)(tb:Bool)(tl:List D)(kd1:Int)(nm1:aE)(ty1:aE)(ck1:Int)(cn1:Int)(cu1:Int)(cs1:aE)(cb1:Bool)(cl1:List D)(fb1:Bool)(fl1:List D)(mb1:Bool)(ml1:List D)(ex1:aE)(tb1:Bool)(tl1:List D)(ht:∀y∈tl,zP y)(ht1:∀y∈tl1,zP y)(htl:tl.length<=1000)(hlt:tl.length=tl1.length)(hl:∀y∈ml,WM y)(hm:∀y∈ml1,WM y)(hll:ml.length<=1000):∀(r q p z:List D),p++r=ml->z++q=ml1->p.length=z.length->r.length=q.length->
  RY (KP (p.length:Int) [dO kd1 nm1 ty1 ck1 cn1 cu1 cs1 cb1 cl1 fb1 fl1 mb1 ml1 ex1 tb1 tl1,dO kd nm ty ck cn cu cs cb cl fb fl mb ml ex tb tl])=some (.d (.b (kV Xh r q&&kV D0 tl tl1)),[])
 | [],[],p,z,e1,e2,h1,h2=>by
  rw[abo]at e1;subst e1;rw[RY,GI,bB];exact aM (QR kd nm ty ck cn cu cs cb cl fb fl mb p ex tb tl kd1 nm1 ty1 ck1 cn1 cu1 cs1 cb1 cl1 fb1 fl1 mb1 ml1 ex1 tb1 tl1 ht ht1 htl tl tl1 [] [] rfl rfl rfl hlt)
 | [],_::_,p,z,e1,e2,h1,h2=>by simp at h2
 |_::_,[],p,z,e1,e2,h1,h2=>by simp at h2
 |x::r,y::q,p,z,e1,e2,h1,h2=>by
  have hlen:ml.length=p.length+(r.length+1):=by rw[<-e1];simp
  have w1:=ca p.length;have hx:=hl x (by rw[<-e1];simp);have hy:=hm y (by rw[<-e2];simp);have g1:ml[p.length]?=some x:=by rw[<-e1];simp
  have g2:ml1[p.length]?=some y:=by rw[<-e2,h1];simp
  have ih:=QQ kd nm ty ck cn cu cs cb cl fb fl mb ml ex tb tl kd1 nm1 ty1 ck1 cn1 cu1 cs1 cb1 cl1 fb1 fl1 mb1 ml1 ex1 tb1 tl1 ht ht1 htl hlt hl hm hll r q (p++[x]) (z++[y]) (by rw[<-e1];simp) (by rw[<-e2];simp) (by simp[h1]) (by simpa using h2);rw[show (p++[x]).length=p.length+1 by simp]at ih;rw[RY,GI,bC];obtain⟨s1,h1',n1,rfl,_⟩:=hx;obtain⟨s2,h2',n2,rfl,_⟩:=hy;refine(j0 g1 rfl).trans ?_;refine(j0 g2 rfl).trans ?_;refine(bz (a:=s1==s2&&(h1'==h2'&&n1==n2)) ?_).trans ?_
  ·simp[TA,xk,Go.Dn.GR]
  rw[w1];refine qQ (de (λ _=>rfl) (λ _=>aM ih)) ?_;simp only[Bool.not_not,kV,Xh,Bool.and_assoc]
theorem Ny:BX 36 WD GR:=by
 intro x y hx hy;obtain⟨kd,nm,ty,ck,cn,cu,cs,cb,cl,fb,fl,mb,ml,ex,tb,tl,rfl,_,_,_,_,_,h1,h2,h3,h4,h5,_,h6,h7,_⟩:=hx;obtain⟨kd1,nm1,ty1,ck1,cn1,cu1,cs1,cb1,cl1,fb1,fl1,mb1,ml1,ex1,tb1,tl1,rfl,_,_,_,_,_,i1,i2,i3,i4,i5,_,i6,i7,_⟩:=hy;have t13:RY (SH true [dO kd1 nm1 ty1 ck1 cn1 cu1 cs1 cb1 cl1 fb1 fl1 mb1 ml1 ex1 tb1 tl1,dO kd nm ty ck cn cu cs cb cl fb fl mb ml ex tb tl])=some (.d (.b false),[]):=by rw[RY,GH,bQ];rfl
 have f13:ml.length=ml1.length->RY (SH ((tl.length:Int) != (tl1.length:Int)) [dO kd1 nm1 ty1 ck1 cn1 cu1 cs1 cb1 cl1 fb1 fl1 mb1 ml1 ex1 tb1 tl1,dO kd nm ty ck cn cu cs cb cl fb fl mb ml ex tb tl])=some (.d (.b (kV Xh ml ml1&&kV D0 tl tl1)),[]):=by
  intro hml;rw[RY,GH];by_cases h:tl.length=tl1.length
  ·rw[cX (by rw[kT];simp[h])]
   exact aM (QQ kd nm ty ck cn cu cs cb cl fb fl mb ml ex tb tl kd1 nm1 ty1 ck1 cn1 cu1 cs1 cb1 cl1 fb1 fl1 mb1 ml1 ex1 tb1 tl1 h7 i7 (by omega) h h5 i5 (by omega) ml ml1 [] [] rfl rfl rfl hml)
  ·rw[eH (by rw[kT];simp[h]),qq h,Bool.and_false];rfl
 rw[RY,y36];refine qQ (de (λ _=>gm t13) λ _=>de (λ _=>gm t13) λ _=>de (λ _=>gm t13) λ _=>yG (pW qS _ _ h1 i1) (de (λ _=>gm t13) λ _=>yG (oB fl fl1 fb fb1 h3 i3 (by omega)) (de (λ _=>gm t13) λ _=>de (λ _=>gm t13) λ _=>de (λ _=>gm t13) λ hq=>gm (f13 ?_)))) ?_
 ·rw[kT]at hq;simpa using hq
 ·rw[kT];have e:=Cf (g:=Xh) ml ml1;simp only[GR,bne,Bool.not_not];rw[<-e]
  delta aE
  ac_rfl
theorem Q3(ib:Bool)(il:List D)(sb:Bool)(sl:List D)(db:Bool)(dl:List D)(ib1:Bool)(il1:List D)(sb1:Bool)(sl1:List D)(db1:Bool)(dl1:List D)(hl:∀y∈dl,WD y)(hm:∀y∈dl1,WD y)(hll:dl.length<=1000):∀(r q p z:List D),p++r=dl->z++q=dl1->p.length=z.length->r.length=q.length->
  RY (KR (p.length:Int) [MK ib1 il1 sb1 sl1 db1 dl1,MK ib il sb sl db dl])=some (.d (.b (kV GR r q)),[])
 | [],[],p,z,e1,e2,h1,h2=>by
  rw[abo]at e1;subst e1;rw[RY,BS,bB];rfl
 | [],_::_,p,z,e1,e2,h1,h2=>by simp at h2
 |_::_,[],p,z,e1,e2,h1,h2=>by simp at h2
 |x::r,y::q,p,z,e1,e2,h1,h2=>by
  have hlen:dl.length=p.length+(r.length+1):=by rw[<-e1];simp
  have w1:=ca p.length;have hx:=hl x (by rw[<-e1];simp);have hy:=hm y (by rw[<-e2];simp);have g1:dl[p.length]?=some x:=by rw[<-e1];simp
  have g2:dl1[p.length]?=some y:=by rw[<-e2,h1];simp
  have ih:=Q3 ib il sb sl db dl ib1 il1 sb1 sl1 db1 dl1 hl hm hll r q (p++[x]) (z++[y]) (by rw[<-e1];simp) (by rw[<-e2];simp) (by simp[h1]) (by simpa using h2);rw[show (p++[x]).length=p.length+1 by simp]at ih;have hc:=Ny x y hx hy;rw[RY,BS,bC];refine(j0 g1 (WG hx)).trans ?_;refine(j0 g2 (WG hy)).trans ?_;obtain⟨_,_,_,_,_,_,_,_,_,_,_,_,_,_,_,_,rfl,_⟩:=hx;obtain⟨_,_,_,_,_,_,_,_,_,_,_,_,_,_,_,_,rfl,_⟩:=hy;refine yG hc ?_;rw[w1];refine qQ (de (λ _=>rfl) (λ _=>aM ih)) ?_;simp only[Bool.not_not,kV]
theorem Wp(ib:Bool)(il:List D)(sb:Bool)(sl:List D)(db:Bool)(dl:List D)(ib1:Bool)(il1:List D)(sb1:Bool)(sl1:List D)(db1:Bool)(dl1:List D)(hd:∀y∈dl,WD y)(hd1:∀y∈dl1,WD y)(hdl:dl.length<=1000)(hdd:dl.length=dl1.length)(hl:∀y∈sl,WS y)(hm:∀y∈sl1,WS y)(hll:sl.length<=1000):∀(r q p z:List D),p++r=sl->z++q=sl1->p.length=z.length->r.length=q.length->
  RY (KX (p.length:Int) [MK ib1 il1 sb1 sl1 db1 dl1,MK ib il sb sl db dl])=some (.d (.b (kV V4 r q&&kV GR dl dl1)),[])
 | [],[],p,z,e1,e2,h1,h2=>by
  rw[abo]at e1;subst e1;rw[RY,GD,bB];exact aM (Q3 ib il sb p db dl ib1 il1 sb1 sl1 db1 dl1 hd hd1 hdl dl dl1 [] [] rfl rfl rfl hdd)
 | [],_::_,p,z,e1,e2,h1,h2=>by simp at h2
 |_::_,[],p,z,e1,e2,h1,h2=>by simp at h2
 |x::r,y::q,p,z,e1,e2,h1,h2=>by
  have hlen:sl.length=p.length+(r.length+1):=by rw[<-e1];simp
  have w1:=ca p.length;have hx:=hl x (by rw[<-e1];simp);have hy:=hm y (by rw[<-e2];simp);have g1:sl[p.length]?=some x:=by rw[<-e1];simp
  have g2:sl1[p.length]?=some y:=by rw[<-e2,h1];simp
  have ih:=Wp ib il sb sl db dl ib1 il1 sb1 sl1 db1 dl1 hd hd1 hdl hdd hl hm hll r q (p++[x]) (z++[y]) (by rw[<-e1];simp) (by rw[<-e2];simp) (by simp[h1]) (by simpa using h2);rw[show (p++[x]).length=p.length+1 by simp]at ih;rw[RY,GD,bC];obtain⟨s1,s2,rfl,_⟩:=hx;obtain⟨s3,s4,rfl,_⟩:=hy;refine(j0 g1 rfl).trans ?_;refine(j0 g2 rfl).trans ?_;refine(bz (a:=s1==s3&&s2==s4) ?_).trans ?_
  ·simp[TA,xk,Go.Dn.GR]
  rw[w1];refine qQ (de (λ _=>rfl) (λ _=>aM ih)) ?_;simp only[Bool.not_not,kV,V4,Bool.and_assoc]
theorem Wo(ib:Bool)(il:List D)(sb:Bool)(sl:List D)(db:Bool)(dl:List D)(ib1:Bool)(il1:List D)(sb1:Bool)(sl1:List D)(db1:Bool)(dl1:List D)(hd:∀y∈dl,WD y)(hd1:∀y∈dl1,WD y)(hdl:dl.length<=1000)(hdd:dl.length=dl1.length)(hs:∀y∈sl,WS y)(hs1:∀y∈sl1,WS y)(hsl:sl.length<=1000)(hss:sl.length=sl1.length)(hl:∀y∈il,WI y)(hm:∀y∈il1,WI y)(hll:il.length<=1000):∀(r q p z:List D),p++r=il->z++q=il1->p.length=z.length->r.length=q.length->
  RY (KW (p.length:Int) [MK ib1 il1 sb1 sl1 db1 dl1,MK ib il sb sl db dl])=some (.d (.b (kV Xg r q&&(kV V4 sl sl1&&kV GR dl dl1))),[])
 | [],[],p,z,e1,e2,h1,h2=>by
  rw[abo]at e1;subst e1;rw[RY,GC,bB];exact aM (Wp ib p sb sl db dl ib1 il1 sb1 sl1 db1 dl1 hd hd1 hdl hdd hs hs1 hsl sl sl1 [] [] rfl rfl rfl hss)
 | [],_::_,p,z,e1,e2,h1,h2=>by simp at h2
 |_::_,[],p,z,e1,e2,h1,h2=>by simp at h2
 |x::r,y::q,p,z,e1,e2,h1,h2=>by
  have hlen:il.length=p.length+(r.length+1):=by rw[<-e1];simp
  have w1:=ca p.length;have hx:=hl x (by rw[<-e1];simp);have hy:=hm y (by rw[<-e2];simp);have g1:il[p.length]?=some x:=by rw[<-e1];simp
  have g2:il1[p.length]?=some y:=by rw[<-e2,h1];simp
  have ih:=Wo ib il sb sl db dl ib1 il1 sb1 sl1 db1 dl1 hd hd1 hdl hdd hs hs1 hsl hss hl hm hll r q (p++[x]) (z++[y]) (by rw[<-e1];simp) (by rw[<-e2];simp) (by simp[h1]) (by simpa using h2);rw[show (p++[x]).length=p.length+1 by simp]at ih;rw[RY,GC,bC];obtain⟨s1,rfl,_⟩:=hx;obtain⟨s2,rfl,_⟩:=hy;rw[qi g1,qi g2,w1];refine qQ (de (λ _=>rfl) (λ _=>aM ih)) ?_;simp only[Bool.not_not,kV,Xg,Bool.and_assoc]
theorem Iq:BX 15 Tv T7:=by
 intro x y hx hy;obtain⟨ib,il,sb,sl,db,dl,rfl,h1,h2,h3,h4,h5,h6⟩:=hx;obtain⟨ib1,il1,sb1,sl1,db1,dl1,rfl,i1,i2,i3,i4,i5,i6⟩:=hy;have t13:RY (Of true [MK ib1 il1 sb1 sl1 db1 dl1,MK ib il sb sl db dl])=some (.d (.b false),[]):=by rw[RY,GB,bQ];rfl
 have f13:il.length=il1.length->sl.length=sl1.length->RY (Of ((dl.length:Int) != (dl1.length:Int)) [MK ib1 il1 sb1 sl1 db1 dl1,MK ib il sb sl db dl])=some (.d (.b (kV Xg il il1&&(kV V4 sl sl1&&kV GR dl dl1))),[]):=by
  intro hil hsl;rw[RY,GB];by_cases h:dl.length=dl1.length
  ·rw[cX (by rw[kT];simp[h])]
   exact aM (Wo ib il sb sl db dl ib1 il1 sb1 sl1 db1 dl1 h6 i6 (by omega) h h5 i5 (by omega) hsl h4 i4 (by omega) il il1 [] [] rfl rfl rfl hil)
  ·rw[eH (by rw[kT];simp[h]),qq h,Bool.and_false,Bool.and_false];rfl
 rw[RY,y15];refine qQ (de (λ _=>gm t13) λ hq=>de (λ _=>gm t13) λ hq2=>gm (f13 ?_ ?_)) ?_
 ·rw[kT]at hq;simpa using hq
 ·rw[kT]at hq2;simpa using hq2
 ·rw[kT,kT];have e:=Cf (g:=Xg) il il1;have e2:=Cf (g:=V4) sl sl1;simp only[T7,Bool.not_not];clear f13 t13;generalize kV Xg il il1=a at *;generalize kV V4 sl sl1=b at *;generalize kV GR dl dl1=c at *;generalize (il.length==il1.length)=p at *;generalize (sl.length==sl1.length)=q at *;revert e e2;cases a<;>cases b<;>cases c<;>cases p<;>cases q<;>decide
end Go.Dn.Dec
namespace Go.Dn.Dec.Pa
open Go.IntKind (i64 u64 u8 u16 i32 u32)
open Go.Proofs
set_option maxRecDepth 100000
theorem q15{x:D}(hx:Tv x):RQ (.call 15 [V.d x,V.d x] [])=some (vb true,[]):=by have:=Zm (Iq x x hx hx) (by decide) (by decide) (by decide) (by decide);rw[hx.self]at this;exact this
theorem Fv(zs az hz:List Int)(h1:∀z∈zs,0<=z/\z<256)(h2:∀z∈az,0<=z/\z<65536)(h3:∀z∈hz,0<=z/\z<256)(l1:zs.length<=100)(l2:az.length<=3):
  RQ (SU false false false false (ints .u8 zs) (ints .u16 az) (ints .u8 hz) [])=some (vb true,[]):=by
 obtain⟨t,ht⟩:=SY zs az hz h1 h2 h3 l1 l2 false false;have ht:=QN ht (by decide) (by decide) (by decide);have hp:=J1 t;obtain⟨il,sl,dl,bi,bs,bd,hf⟩:=sW t;have all1:∀(bi bs bd:Bool) (il sl dl:List D),∀f:Task->Option Out,∀X:Tr,aD f (aO ([V.d (([.l bi il,.l bs sl,.l bd dl]:List D).getD 0 (.b false)),.d (([.l bi il,.l bs sl,.l bd dl]:List D).getD 1 (.b false)),.d (([.l bi il,.l bs sl,.l bd dl]:List D).getD 2 (.b false))].all V.one) X)=aD f X:=λ _ _ _ _ _ _ _ _=>aQ;rw[RQ,Kb];refine bH.trans ?_;refine(gG ht).trans ?_;rw[hf]at hp;refine(Rh hp rfl).trans ?_;refine(all1 _ _ _ _ _ _ _ _).trans ?_;by_cases he:(fG t).2.1=0
 ·obtain⟨g1,g2,pb⟩:=Ia he;obtain⟨il',sl',dl',hf'⟩:=CS he;have p12:=q12 g1 g2 hf';have p15:=q15 g1;rw[eN he];rw[hf]at p12 p15 pb;generalize hP:mN (.g [.l bi il,.l bs sl,.l bd dl])=P at *;refine(gG p12).trans ?_;have hp2:=J1 P;obtain⟨jl,tl,el,ci,cs,cd,hf2⟩:=sW P;rw[hf2]at hp2;refine(Rh hp2 rfl).trans ?_;refine(all1 _ _ _ _ _ _ _ _).trans ?_;by_cases hl:2000<P.length
  ·have e:fG P=(AG true [] true [] true [],4,0):=by unfold fG lexB;rw[aaR hl];rfl
   rw[e,bC,bM rfl];rfl
  ·have e:=pb (by omega)
   rw[e]at hf2⊢;have hf2:(D.g [.l bi il,.l bs sl,.l bd dl]) = .g [.l ci jl,.l cs tl,.l cd el]:=hf2;injection hf2 with hf2
   injection hf2 with k1 hf2
   injection hf2 with k2 hf2
   injection hf2 with k3 _
   rw[<-k1,<-k2,<-k3];rw[bB,bM rfl];refine(gJ p15).trans ?_;rw[bQ];refine(gG p12).trans ?_;show some (vb (P==P),_)=_;rw[abq]
 ·rw[fj he];rfl
theorem Fw(zs az hz:List Int)(h1:∀z∈zs,0<=z/\z<256)(h2:∀z∈az,0<=z/\z<65536)(h3:∀z∈hz,0<=z/\z<256):
  RQ (.call 5 (fI false false false (ints .u8 zs) (ints .u16 az) (ints .u8 hz)) [])=some (vb true,[]):=by
 have e1:(ints .u8 zs).length=zs.length:=jo _ _;have e2:(ints .u16 az).length=az.length:=jo _ _;have t:RQ (SU false false false true (ints .u8 zs) (ints .u16 az) (ints .u8 hz) [])=some (vb true,[]):=by rw[RQ,Kb];exact bQ
 rw[RQ,uq5];refine(gJ WV).trans ?_;refine mr.trans ?_;by_cases k1:100<zs.length
 ·rw[bC];exact di.trans t
 ·rw[bB];refine di.trans ?_;by_cases k2:3<az.length
  ·rw[aa3 (show ((ints .u16 az).length:Int)>3 by omega)];exact t
  ·rw[abf (show ¬((ints .u16 az).length:Int)>3 by omega)]
   exact Fv zs az hz h1 h2 h3 (by omega) (by omega)
end Go.Dn.Dec.Pa
