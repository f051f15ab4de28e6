/- The document's lexer. Printed by a program of mine. -/
import Derived.Test.YtbjllhjbhdjfjaaGreatDoorP5
import Derived.Test.YtbjllhjbhdjfjaaGreatDoorP4
import Derived.KernelRfl
import Derived.Test.YtbjllhjbhdjfjaaGreatDoorP6
set_option linter.unusedVariables false
set_option linter.unusedSimpArgs false
set_option linter.unusedSectionVars false
namespace Go.Dn.Dec
open Go.IntKind (i64 u64 u8 u16 i32 u32)
open Go.Proofs
open Tryz (prog)
theorem e96(c:Int):EQ aK (.call 96 [.d (.i .u8 c)] []) (aV (decide (c ≥ 97)) (aV (decide (c<=122)) (.ret (vb true,[])) (aV (decide (c ≥ 65)) (aV (decide (c<=90)) (.ret (vb true,[])) (.ret (vb (c==95),[]))) (.ret (vb (c==95),[])))) (aV (decide (c ≥ 65)) (aV (decide (c<=90)) (.ret (vb true,[])) (.ret (vb (c==95),[]))) (.ret (vb (c==95),[])))):=aF
theorem e98(c:Int):EQ aK (.call 98 [.d (.i .u8 c)] []) (aV (decide (c ≥ 48)) (.ret (vb (decide (c<=57)),[])) (.ret (vb false,[]))):=aF
theorem aak(c:Int):EQ aK (.call 145 [.d (.i .u8 c)] []) (cV (.call 98 [.d (.i .u8 c)] []) λ a=>bG a λ e=>jz e λ f=>aV f (.ret (vi (i64.wrap (u8.wrap (c-48))),[])) (aV (decide (c ≥ 97)) (aR (Sz (.d (.i .u8 c)) (decide (c<=102)) [])) (aR (Sz (.d (.i .u8 c)) false [])))):=aF
theorem e94(s:aE)(a:Int)(t:aE):EQ aK (.call 94 [vs s,vi a,vs t] []) (aV (decide (i64.wrap (a+(t.length:Int))<=(s.length:Int))) (aO (decide (0<=i64.wrap (a+(t.length:Int))/\i64.wrap (a+(t.length:Int))<=(s.length:Int))) (aO (decide (0<=a/\a<=((i64.wrap (a+(t.length:Int))).toNat:Int))) (.ret (vb (List.take ((i64.wrap (a+(t.length:Int))).toNat-a.toNat) (List.drop a.toNat s)==t),[])))) (.ret (vb false,[]))):=aF
theorem YV(n m:Int)(s:aE)(i e a:Int):EQ aK (.call 95 [.p 0 0,vi n,vi m] [aC (dF s i e a)]) (.ret (.t [],[aC (dF s i n m)])):=aF
theorem aam(s:aE)(i e a:Int):EQ aK (.call 147 [.p 0 0] [aC (dF s i e a)]) (aR (LC i [aC (dF s i e a)])):=aF
theorem aan(n:Int)(s:aE)(i e a:Int):EQ aK (.call 148 [.p 0 0,vi n] [aC (dF s i e a)]) (aV (decide (i64.wrap (i+n)<(s.length:Int))) (ob (bW s (i64.wrap (i+n))) λ c=>cV (.call 98 [.d (.i .u8 (c.toNat:Int))] []) λ f=>bG f λ g=>jz g λ h => .ret (vb h,[aC (dF s i e a)])) (.ret (vb false,[aC (dF s i e a)]))):=aF
theorem T4(s:aE)(i e a:Int):EQ aK (.call 45 [.p 0 0] [aC (dF s i e a)]) (aR (BF [aC (dF s i e a)])):=aF
theorem e97(s:aE)(i e a:Int):EQ aK (.call 97 [.p 0 0] [aC (dF s i e a)]) (aR (Od i [aC (dJ [] 0 0 0 0),aC (dF s i e a)])):=aF
theorem Xc(k:Int)(t:aE)(n d b m:Int)(s:aE)(i e a:Int):EQ aK (.call 151 [.p 0 0,.d (.g [.i .i64 k,.s t,.i .i64 n,.i .u64 d,.i .i64 b]),vi m] [aC (dF s i e a)]) (aV (m != 0) (c1 (.call 95 [.p 0 0,vi m,vi b] [aC (dF s i e a)]) 4 [] λ c f=>dI c λ h=>aO (h.length==0) (.ret (.d (.g [.i .i64 k,.s t,.i .i64 n,.i .u64 d,.i .i64 b]),[aC f]))) (aV (decide (i<(s.length:Int))) (ob (bW s i) λ j=>cV (.call 96 [.d (.i .u8 (j.toNat:Int))] []) λ l=>bG l λ o=>jz o λ q=>aV q (aR (VI true [aC (dJ [] 0 0 0 0),aC (dJ t k n d b),aC (dF s i e a)])) (ob (bW s i) λ r=>aR (VI ((r.toNat:Int)==46) [aC (dJ [] 0 0 0 0),aC (dJ t k n d b),aC (dF s i e a)]))) (aR (VI false [aC (dJ [] 0 0 0 0),aC (dJ t k n d b),aC (dF s i e a)])))):=aF
theorem aal(s:aE)(i e a:Int):EQ aK (.call 146 [.p 0 0] [aC (dF s i e a)]) (aR (RR (i64.wrap (i+2)) 0 [aC (dJ [] 2 0 0 i),aC (dJ [] 0 0 0 0),aC (dF s (i64.wrap (i+2)) e a)])):=aF
theorem Xb(s:aE):EQ aK (.call 149 [vs s] []) (ob (bW s 0) λ a=>aV ((a.toNat:Int)==45) (aR (Sp s ((a.toNat:Int)==45) true [])) (ob (bW s 0) λ c=>aR (Sp s ((a.toNat:Int)==45) ((c.toNat:Int)==43) []))):=aF
theorem e99(s:aE)(i e a:Int):EQ aK (.call 99 [.p 0 0] [aC (dF s i e a)]) (cV (.call 94 [vs s,vi i,vs [48,120]] []) λ c=>bG c λ f=>jz f λ g=>aV g (aV (decide (i64.wrap (i+2)<(s.length:Int))) (ob (bW s (i64.wrap (i+2))) λ h=>cV (.call 145 [.d (.i .u8 (h.toNat:Int))] []) λ j=>bG j λ k=>cf .i64 k λ l=>aR (VO i (decide (l ≥ 0)) [aC (dJ [] 0 0 0 0),aC (dF s i e a)])) (aR (VO i false [aC (dJ [] 0 0 0 0),aC (dF s i e a)]))) (aR (VO i false [aC (dJ [] 0 0 0 0),aC (dF s i e a)]))):=aF
theorem Hf(s:aE)(i e a:Int):EQ aK (.call 46 [.p 0 0] [aC (dF s i e a)]) (aV (i==(s.length:Int)) (.ret (.d (.g [.i .i64 6,.s [],.i .i64 0,.i .u64 0,.i .i64 i]),[aC (dF s i e a)])) (ob (bW s i) λ b=>aV (decide (i64.wrap (i+1)<(s.length:Int))) (ob (bW s (i64.wrap (i+1))) λ c=>aR (Sa (.d (.i .u8 (b.toNat:Int))) (.d (.i .u8 (c.toNat:Int))) i [aC (dJ [] 0 0 0 0),aC (dF s i e a)])) (aR (Sa (.d (.i .u8 (b.toNat:Int))) (.d (.i .u8 0)) i [aC (dJ [] 0 0 0 0),aC (dF s i e a)])))):=aF
theorem e20(s:aE):EQ aK (.call 20 [vs s] []) (aV (decide ((s.length:Int)>2000)) (.ret (.t [vl true [],vi 4,vi 0],[])) (aR (Ge true [] [aC (dF s 0 0 0)]))):=aF
theorem xa(n0:Int)(b1:Bool):EQ aK (Sz (.d (.i .u8 n0)) b1 []) (aV b1 (.ret (vi (i64.wrap (i64.wrap (u8.wrap (n0-97))+10)),[])) (aV (decide (n0 ≥ 65)) (aR (LV (.d (.i .u8 n0)) (decide (n0<=70)) [])) (aR (LV (.d (.i .u8 n0)) false [])))):=aF
theorem Al(n0:Int)(l1:aE)(n2 n3 n4:Int):EQ aK (LC n0 [aC (dF l1 n2 n3 n4)]) (aV (decide (n2<(l1.length:Int))) (ob (bW l1 n2) λ a=>cV (.call 98 [.d (.i .u8 (a.toNat:Int))] []) λ c=>bG c λ e=>jz e λ f=>aR (Sj n0 f [aC (dF l1 n2 n3 n4)])) (aR (Sj n0 false [aC (dF l1 n2 n3 n4)]))):=aF
theorem Cc(l0:aE)(n1 n2 n3:Int):EQ aK (BF [aC (dF l0 n1 n2 n3)]) (aV (decide (n1<(l0.length:Int))) (aR (Sx (n2==0) [aC (dF l0 n1 n2 n3)])) (aR (Sx false [aC (dF l0 n1 n2 n3)]))):=aF
theorem DX(n0 n1:Int)(l2:aE)(n3 n4 n5:Int)(l6:aE)(n7 n8 n9:Int):EQ aK (Od n0 [aC (dJ l2 n1 n3 n4 n5),aC (dF l6 n7 n8 n9)]) (aV (decide (n7<(l6.length:Int))) (ob (bW l6 n7) λ a=>cV (.call 96 [.d (.i .u8 (a.toNat:Int))] []) λ c=>bG c λ e=>jz e λ f=>aV f (aR (WA n0 true [aC (dJ l2 n1 n3 n4 n5),aC (dF l6 n7 n8 n9)])) (ob (bW l6 n7) λ g=>cV (.call 98 [.d (.i .u8 (g.toNat:Int))] []) λ h=>bG h λ j=>jz j λ k=>aV k (aR (WA n0 true [aC (dJ l2 n1 n3 n4 n5),aC (dF l6 n7 n8 n9)])) (ob (bW l6 n7) λ l=>aR (WA n0 ((l.toNat:Int)==46) [aC (dJ l2 n1 n3 n4 n5),aC (dF l6 n7 n8 n9)])))) (aR (WA n0 false [aC (dJ l2 n1 n3 n4 n5),aC (dF l6 n7 n8 n9)]))):=aF
theorem My(b0:Bool)(n1:Int)(l2:aE)(n3 n4 n5 n6:Int)(l7:aE)(n8 n9 n10:Int)(l11:aE)(n12 n13 n14:Int):EQ aK (VI b0 [aC (dJ l2 n1 n3 n4 n5),aC (dJ l7 n6 n8 n9 n10),aC (dF l11 n12 n13 n14)]) (aV b0 (c1 (.call 95 [.p 0 0,vi 2,vi n12] [aC (dF l11 n12 n13 n14)]) 4 [] λ a c=>dI a λ e=>aO (e.length==0) (.ret (.d (.g [.i .i64 n6,.s l7,.i .i64 n8,.i .u64 n9,.i .i64 n10]),[aC c]))) (.ret (.d (.g [.i .i64 n6,.s l7,.i .i64 n8,.i .u64 n9,.i .i64 n10]),[aC (dF l11 n12 n13 n14)]))):=aF
theorem rB(n0 n1 n2:Int)(l3:aE)(n4 n5 n6 n7:Int)(l8:aE)(n9 n10 n11:Int)(l12:aE)(n13 n14 n15:Int):EQ aK (RR n0 n1 [aC (dJ l3 n2 n4 n5 n6),aC (dJ l8 n7 n9 n10 n11),aC (dF l12 n13 n14 n15)]) (aV (decide (n13<(l12.length:Int))) (ob (bW l12 n13) λ a=>cV (.call 145 [.d (.i .u8 (a.toNat:Int))] []) λ c=>bG c λ e=>cf .i64 e λ f=>aR (Yb n0 n1 (decide (f ≥ 0)) [aC (dJ l3 n2 n4 n5 n6),aC (dJ l8 n7 n9 n10 n11),aC (dF l12 n13 n14 n15)])) (aR (Yb n0 n1 false [aC (dJ l3 n2 n4 n5 n6),aC (dJ l8 n7 n9 n10 n11),aC (dF l12 n13 n14 n15)]))):=aF
theorem ug(l0:aE)(b1 b2:Bool):EQ aK (Sp l0 b1 b2 []) (aV b2 (aO (decide ((0:Int)<=1/\1<=(l0.length:Int))) (aV (decide (((List.take (l0.length-1) (List.drop 1 l0)).length:Int)>60)) (.ret (.t [vi 0,vi 4],[])) (aR (Oa (List.take (l0.length-1) (List.drop 1 l0)) 0 0 b1 [])))) (aV (decide ((l0.length:Int)>60)) (.ret (.t [vi 0,vi 4],[])) (aR (Oa l0 0 0 b1 [])))):=aF
theorem DY(n0:Int)(b1:Bool)(n2:Int)(l3:aE)(n4 n5 n6:Int)(l7:aE)(n8 n9 n10:Int):EQ aK (VO n0 b1 [aC (dJ l3 n2 n4 n5 n6),aC (dF l7 n8 n9 n10)]) (aV b1 (c1 (.call 146 [.p 0 0] [aC (dF l7 n8 n9 n10)]) 4 [] λ o0 l3=>bG o0 λ d5=>j5 5 d5 λ l6=>aO ([.d (aH l6 0),.d (aH l6 1),.d (aH l6 2),.d (aH l6 3),.d (aH l6 4)].all V.one) (.ret (.d (.g [l6.getD 0 (.b false),l6.getD 1 (.b false),l6.getD 2 (.b false),l6.getD 3 (.b false),l6.getD 4 (.b false)]),[aC l3]))) (ob (bW l7 n8) λ c7=>aV ((c7.toNat:Int)==43) (aR (R9 n0 true [aC (dJ l3 n2 n4 n5 n6),aC (dF l7 n8 n9 n10)])) (ob (bW l7 n8) λ c8=>aR (R9 n0 ((c8.toNat:Int)==45) [aC (dJ l3 n2 n4 n5 n6),aC (dF l7 n8 n9 n10)])))):=aF
theorem Am(n0 n1 n2 n3:Int)(l4:aE)(n5 n6 n7:Int)(l8:aE)(n9 n10 n11:Int):EQ aK (Sa (.d (.i .u8 n1)) (.d (.i .u8 n2)) n0 [aC (dJ l4 n3 n5 n6 n7),aC (dF l8 n9 n10 n11)]) (cV (.call 96 [.d (.i .u8 n1)] []) λ a=>bG a λ c=>jz c λ e=>aV e (c1 (.call 97 [.p 0 0] [aC (dF l8 n9 n10 n11)]) 4 [] λ f h=>bG f λ j=>j5 5 j λ k=>aO ([.d (aH k 0),.d (aH k 1),.d (aH k 2),.d (aH k 3),.d (aH k 4)].all V.one) (.ret (.d (.g [k.getD 0 (.b false),k.getD 1 (.b false),k.getD 2 (.b false),k.getD 3 (.b false),k.getD 4 (.b false)]),[aC h]))) (cV (.call 98 [.d (.i .u8 n1)] []) λ l=>bG l λ m=>jz m λ n=>aV n (aR (Vv (.d (.i .u8 n1)) (.d (.i .u8 n2)) n0 n [aC (dJ l4 n3 n5 n6 n7),aC (dF l8 n9 n10 n11)])) (aV (n1==46) (cV (.call 98 [.d (.i .u8 n2)] []) λ o=>bG o λ q=>jz q λ r=>aR (Vv (.d (.i .u8 n1)) (.d (.i .u8 n2)) n0 r [aC (dJ l4 n3 n5 n6 n7),aC (dF l8 n9 n10 n11)])) (aR (Vv (.d (.i .u8 n1)) (.d (.i .u8 n2)) n0 false [aC (dJ l4 n3 n5 n6 n7),aC (dF l8 n9 n10 n11)]))))):=aF
theorem rA(n0:Int)(b1:Bool):EQ aK (LV (.d (.i .u8 n0)) b1 []) (aV b1 (.ret (vi (i64.wrap (i64.wrap (u8.wrap (n0-65))+10)),[])) (.ret (vi (-1),[]))):=aF
theorem xb(n0:Int)(b1:Bool)(l2:aE)(n3 n4 n5:Int):EQ aK (Sj n0 b1 [aC (dF l2 n3 n4 n5)]) (aV b1 (aR (LC n0 [aC (dF l2 (i64.wrap (n3+1)) n4 n5)])) (.ret (vb (decide (n3>n0)),[aC (dF l2 n3 n4 n5)]))):=aF
theorem xf(b0:Bool)(l1:aE)(n2 n3 n4:Int):EQ aK (Sx b0 [aC (dF l1 n2 n3 n4)]) (aV b0 (ob (bW l1 n2) λ a=>aV ((a.toNat:Int)==9) (aR (Oj (.d (.i .u8 (a.toNat:Int))) true [aC (dF l1 n2 n3 n4)])) (aV ((a.toNat:Int)==10) (aR (Oj (.d (.i .u8 (a.toNat:Int))) true [aC (dF l1 n2 n3 n4)])) (aV ((a.toNat:Int)==13) (aR (Oj (.d (.i .u8 (a.toNat:Int))) true [aC (dF l1 n2 n3 n4)])) (aR (Oj (.d (.i .u8 (a.toNat:Int))) ((a.toNat:Int)==32) [aC (dF l1 n2 n3 n4)]))))) (.ret (.t [],[aC (dF l1 n2 n3 n4)]))):=aF
theorem uh(n0:Int)(b1:Bool)(n2:Int)(l3:aE)(n4 n5 n6:Int)(l7:aE)(n8 n9 n10:Int):EQ aK (WA n0 b1 [aC (dJ l3 n2 n4 n5 n6),aC (dF l7 n8 n9 n10)]) (aV b1 (aR (Od n0 [aC (dJ l3 n2 n4 n5 n6),aC (dF l7 (i64.wrap (n8+1)) n9 n10)])) (aO (decide (0<=n8/\n8<=(l7.length:Int))) (aO (decide (0<=n0/\n0<=(n8.toNat:Int))) (aV (decide (((List.take (n8.toNat-n0.toNat) (List.drop n0.toNat l7)).length:Int)>120)) (c1 (.call 95 [.p 0 0,vi 4,vi n0] [aC (dF l7 n8 n9 n10)]) 4 [] λ o0 l3=>dI o0 λ l5=>aO (l5.length==0) (.ret (.d (.g [.i .i64 0,.s [],.i .i64 0,.i .u64 0,.i .i64 0]),[aC l3]))) (aR (SC (List.take (n8.toNat-n0.toNat) (List.drop n0.toNat l7)) n0 0 [aC (dJ l3 n2 n4 n5 n6),aC (dF l7 n8 n9 n10)])))))):=aF
theorem mh(n0 n1:Int)(b2:Bool)(n3:Int)(l4:aE)(n5 n6 n7 n8:Int)(l9:aE)(n10 n11 n12:Int)(l13:aE)(n14 n15 n16:Int):EQ aK (Yb n0 n1 b2 [aC (dJ l4 n3 n5 n6 n7),aC (dJ l9 n8 n10 n11 n12),aC (dF l13 n14 n15 n16)]) (aV b2 (ob (bW l13 n14) λ a=>cV (.call 145 [.d (.i .u8 (a.toNat:Int))] []) λ c=>bG c λ e=>cf .i64 e λ f=>aR (RR n0 (u64.wrap ((BitVec.ofInt u64.bits (u64.wrap (n1*16)) ||| BitVec.ofInt u64.bits (u64.wrap f)).toNat:Int)) [aC (dJ l4 n3 n5 n6 n7),aC (dJ l9 n8 n10 n11 n12),aC (dF l13 (i64.wrap (n14+1)) n15 n16)])) (aV (decide (i64.wrap (n14-n0)>16)) (aR (Vq n1 4 [aC (dJ l4 n3 n5 n6 n7),aC (dJ l9 n8 n10 n11 n12),aC (dF l13 n14 n15 n16)])) (aV (decide (n1>9223372036854775807)) (aR (Vq n1 5 [aC (dJ l4 n3 n5 n6 n7),aC (dJ l9 n8 n10 n11 n12),aC (dF l13 n14 n15 n16)])) (aR (Vq n1 0 [aC (dJ l4 n3 n5 n6 n7),aC (dJ l9 n8 n10 n11 n12),aC (dF l13 n14 n15 n16)]))))):=aF
theorem xd(l0:aE)(b1:Bool)(n2 n3:Int):EQ aK (Oa l0 n2 n3 b1 []) (aV (decide (n3<(l0.length:Int))) (ob (bW l0 n3) λ a=>aV (decide (n2>u64.wrap ((u64.wrap (9223372036854775808-u64.wrap (u8.wrap ((a.toNat:Int)-48)))).tdiv 10))) (.ret (.t [vi 0,vi 5],[])) (aR (Oa l0 (u64.wrap (u64.wrap (n2*10)+u64.wrap (u8.wrap ((a.toNat:Int)-48)))) (i64.wrap (n3+1)) b1 []))) (aV (!b1) (aR (Sl n2 b1 (decide (n2>9223372036854775807)) [])) (aR (Sl n2 b1 false [])))):=aF
theorem sD(n0:Int)(b1:Bool)(n2:Int)(l3:aE)(n4 n5 n6:Int)(l7:aE)(n8 n9 n10:Int):EQ aK (R9 n0 b1 [aC (dJ l3 n2 n4 n5 n6),aC (dF l7 n8 n9 n10)]) (aV b1 (c1 (.call 147 [.p 0 0] [aC (dF l7 (i64.wrap (n8+1)) n9 n10)]) 4 [] λ o0 l_3_1=>bG o0 λ d5=>jz d5 λ b6=>ob l_3_1[1]? λ v7=>bG v7 λ d8=>cf .i64 d8 λ n9=>ob l_3_1[0]? λ v10=>bG v10 λ d11=>fJ d11 λ l12=>aV (decide (n9<(l12.length:Int))) (ob l_3_1[0]? λ v13=>bG v13 λ d14=>fJ d14 λ l15=>ob l_3_1[1]? λ v16=>bG v16 λ d17=>cf .i64 d17 λ n18=>ob (bW l15 n18) λ c19=>aV ((c19.toNat:Int)==46) (c1 (.call 148 [.p 0 0,vi 1] [aC l_3_1]) l_3_1.length [] λ o20 l23=>bG o20 λ d25=>jz d25 λ b26=>aR (IP n0 true b26 [aC (dJ l3 n2 n4 n5 n6),aC l23])) (aR (IP n0 true false [aC (dJ l3 n2 n4 n5 n6),aC l_3_1]))) (aR (IP n0 true false [aC (dJ l3 n2 n4 n5 n6),aC l_3_1]))) (c1 (.call 147 [.p 0 0] [aC (dF l7 n8 n9 n10)]) 4 [] λ o27 l30=>bG o27 λ d32=>jz d32 λ b33=>ob l30[1]? λ v34=>bG v34 λ d35=>cf .i64 d35 λ n36=>ob l30[0]? λ v37=>bG v37 λ d38=>fJ d38 λ l39=>aV (decide (n36<(l39.length:Int))) (ob l30[0]? λ v40=>bG v40 λ d41=>fJ d41 λ l42=>ob l30[1]? λ v43=>bG v43 λ d44=>cf .i64 d44 λ n45=>ob (bW l42 n45) λ c46=>aV ((c46.toNat:Int)==46) (c1 (.call 148 [.p 0 0,vi 1] [aC l30]) l30.length [] λ o47 l50=>bG o47 λ d52=>jz d52 λ b53=>aR (IP n0 true b53 [aC (dJ l3 n2 n4 n5 n6),aC l50])) (aR (IP n0 true false [aC (dJ l3 n2 n4 n5 n6),aC l30]))) (aR (IP n0 true false [aC (dJ l3 n2 n4 n5 n6),aC l30])))):=aF
theorem xh(n0 n1 n2:Int)(b3:Bool)(n4:Int)(l5:aE)(n6 n7 n8:Int)(l9:aE)(n10 n11 n12:Int):EQ aK (Vv (.d (.i .u8 n1)) (.d (.i .u8 n2)) n0 b3 [aC (dJ l5 n4 n6 n7 n8),aC (dF l9 n10 n11 n12)]) (aV b3 (c1 (.call 99 [.p 0 0] [aC (dF l9 n10 n11 n12)]) 4 [] λ a c=>bG a λ e=>j5 5 e λ f=>aO ([.d (aH f 0),.d (aH f 1),.d (aH f 2),.d (aH f 3),.d (aH f 4)].all V.one) (.ret (.d (.g [f.getD 0 (.b false),f.getD 1 (.b false),f.getD 2 (.b false),f.getD 3 (.b false),f.getD 4 (.b false)]),[aC c]))) (aV (n1==43) (aR (RW (.d (.i .u8 n1)) (.d (.i .u8 n2)) n0 true [aC (dJ l5 n4 n6 n7 n8),aC (dF l9 n10 n11 n12)])) (aR (RW (.d (.i .u8 n1)) (.d (.i .u8 n2)) n0 (n1==45) [aC (dJ l5 n4 n6 n7 n8),aC (dF l9 n10 n11 n12)])))):=aF
theorem rC(b0:Bool)(l1:List D)(l2:List V):EQ aK (Ge b0 l1 [aC l2]) (c1 (.call 45 [.p 0 0] [aC l2]) l2.length [] λ a c=>dI a λ e=>aO (e.length==0) (ob c[2]? λ f=>bG f λ h=>cf .i64 h λ j=>aV (j != 0) (ob c[2]? λ k=>bG k λ m=>cf .i64 m λ n=>ob c[3]? λ o=>bG o λ q=>cf .i64 q λ r => .ret (.t [vl true [],vi n,vi r],[])) (c1 (.call 46 [.p 0 0] [aC c]) c.length [] λ s zu=>bG s λ v=>j5 5 v λ w=>aO ([.d (aH w 0),.d (aH w 1),.d (aH w 2),.d (aH w 3),.d (aH w 4)].all V.one) (ob zu[2]? λ x=>bG x λ y=>cf .i64 y λ z=>aV (z != 0) (ob zu[2]? λ a0=>bG a0 λ a1=>cf .i64 a1 λ a2=>ob zu[3]? λ a3=>bG a3 λ a4=>cf .i64 a4 λ a5 => .ret (.t [vl true [],vi a2,vi a5],[])) (aO (bA 5 l1) (aO (b0||dV [.g [w.getD 0 (.b false),w.getD 1 (.b false),w.getD 2 (.b false),w.getD 3 (.b false),w.getD 4 (.b false)]]) (aO (decide (l1.length+1<=4294967296)) (cf .i64 (aH w 0) λ a6=>aV (a6==6) (.ret (.t [vl (b0&&false) (l1++[.g [w.getD 0 (.b false),w.getD 1 (.b false),w.getD 2 (.b false),w.getD 3 (.b false),w.getD 4 (.b false)]]),vi 0,vi 0],[])) (aR (Ge (b0&&false) (l1++[.g [w.getD 0 (.b false),w.getD 1 (.b false),w.getD 2 (.b false),w.getD 3 (.b false),w.getD 4 (.b false)]]) [aC zu])))))))))):=aF
theorem ka(n0:Int)(b1:Bool)(l2:aE)(n3 n4 n5:Int):EQ aK (Oj (.d (.i .u8 n0)) b1 [aC (dF l2 n3 n4 n5)]) (aV b1 (aR (BF [aC (dF l2 (i64.wrap (n3+1)) n4 n5)])) (aV (n0==35) (aR (Su true [aC (dF l2 n3 n4 n5)])) (cV (.call 94 [vs l2,vi n3,vs [47,47]] []) λ a=>bG a λ c=>jz c λ e=>aR (Su e [aC (dF l2 n3 n4 n5)])))):=aF
theorem He(n0 n1 n2:Int)(l3:aE)(n4 n5 n6 n7:Int)(l8:aE)(n9 n10 n11:Int)(l12:aE)(n13 n14 n15:Int):EQ aK (Vq n0 n1 [aC (dJ l3 n2 n4 n5 n6),aC (dJ l8 n7 n9 n10 n11),aC (dF l12 n13 n14 n15)]) (c1 (.call 151 [.p 0 0,.d (.g [.i .i64 n2,.s l3,.i .i64 (i64.wrap n0),.i .u64 n5,.i .i64 n6]),vi n1] [aC (dF l12 n13 n14 n15)]) 4 [] λ o0 l3=>bG o0 λ d5=>j5 5 d5 λ l6=>aO ([.d (aH l6 0),.d (aH l6 1),.d (aH l6 2),.d (aH l6 3),.d (aH l6 4)].all V.one) (.ret (.d (.g [l6.getD 0 (.b false),l6.getD 1 (.b false),l6.getD 2 (.b false),l6.getD 3 (.b false),l6.getD 4 (.b false)]),[aC l3]))):=aF
theorem xe(b0:Bool)(n1:Int)(b2:Bool):EQ aK (Sl n1 b0 b2 []) (aV b2 (.ret (.t [vi 0,vi 5],[])) (aV b0 (.ret (.t [vi (i64.wrap (i64.wrap (0-i64.wrap (u64.wrap (n1-1)))-1)),vi 0],[])) (.ret (.t [vi (i64.wrap n1),vi 0],[])))):=aF
theorem qo(n0:Int)(b1 b2:Bool)(n3:Int)(l4:aE)(n5 n6 n7:Int)(l8:List V):EQ aK (IP n0 b1 b2 [aC (dJ l4 n3 n5 n6 n7),aC l8]) (aV b2 (ob l8[1]? λ a=>bG a λ c=>cf .i64 c λ e=>aO (decide (1<l8.length)&&true) (c1 (.call 147 [.p 0 0] [aC (l8.set 1 (vi (i64.wrap (e+1))))]) ((l8.set 1 (vi (i64.wrap (e+1)))).length) [] λ f g=>bG f λ h=>jz h λ j=>ob g[1]? λ k=>bG k λ l=>cf .i64 l λ m=>ob g[0]? λ n=>bG n λ o=>fJ o λ q=>aV (decide (m<(q.length:Int))) (ob g[0]? λ r=>bG r λ t=>fJ t λ zu=>ob g[1]? λ v=>bG v λ w=>cf .i64 w λ x=>ob (bW zu x) λ y=>aV ((y.toNat:Int)==101) (aR (X9 n0 false true [aC (dJ l4 n3 n5 n6 n7),aC g])) (ob g[0]? λ z=>bG z λ a0=>fJ a0 λ a1=>ob g[1]? λ a2=>bG a2 λ a3=>cf .i64 a3 λ a4=>ob (bW a1 a4) λ a5=>aR (X9 n0 false ((a5.toNat:Int)==69) [aC (dJ l4 n3 n5 n6 n7),aC g]))) (aR (X9 n0 false false [aC (dJ l4 n3 n5 n6 n7),aC g])))) (ob l8[1]? λ a6=>bG a6 λ a7=>cf .i64 a7 λ a8=>ob l8[0]? λ a9=>bG a9 λ aa=>fJ aa λ ab=>aV (decide (a8<(ab.length:Int))) (ob l8[0]? λ ac=>bG ac λ ad=>fJ ad λ ae=>ob l8[1]? λ af=>bG af λ ag=>cf .i64 ag λ ah=>ob (bW ae ah) λ ai=>aV ((ai.toNat:Int)==101) (aR (X9 n0 b1 true [aC (dJ l4 n3 n5 n6 n7),aC l8])) (ob l8[0]? λ aj=>bG aj λ ak=>fJ ak λ al=>ob l8[1]? λ am=>bG am λ an=>cf .i64 an λ ao=>ob (bW al ao) λ ap=>aR (X9 n0 b1 ((ap.toNat:Int)==69) [aC (dJ l4 n3 n5 n6 n7),aC l8]))) (aR (X9 n0 b1 false [aC (dJ l4 n3 n5 n6 n7),aC l8])))):=aF
theorem u7(n0 n1 n2:Int)(b3:Bool)(n4:Int)(l5:aE)(n6 n7 n8:Int)(l9:aE)(n10 n11 n12:Int):EQ aK (RW (.d (.i .u8 n1)) (.d (.i .u8 n2)) n0 b3 [aC (dJ l5 n4 n6 n7 n8),aC (dF l9 n10 n11 n12)]) (aV b3 (cV (.call 98 [.d (.i .u8 n2)] []) λ a=>bG a λ c=>jz c λ e=>aV e (aR (SI n0 true [aC (dJ l5 n4 n6 n7 n8),aC (dF l9 n10 n11 n12)])) (aV (n2==46) (aV (decide (i64.wrap (n0+2)<(l9.length:Int))) (ob (bW l9 (i64.wrap (n0+2))) λ f=>cV (.call 98 [.d (.i .u8 (f.toNat:Int))] []) λ g=>bG g λ h=>jz h λ j=>aR (SI n0 j [aC (dJ l5 n4 n6 n7 n8),aC (dF l9 n10 n11 n12)])) (aR (SI n0 false [aC (dJ l5 n4 n6 n7 n8),aC (dF l9 n10 n11 n12)]))) (aR (SI n0 false [aC (dJ l5 n4 n6 n7 n8),aC (dF l9 n10 n11 n12)])))) (aV (n1==34) (aR (R0 (.d (.i .u8 n1)) n0 true [aC (dJ l5 n4 n6 n7 n8),aC (dF l9 n10 n11 n12)])) (aR (R0 (.d (.i .u8 n1)) n0 (n1==39) [aC (dJ l5 n4 n6 n7 n8),aC (dF l9 n10 n11 n12)])))):=aF
theorem qn(b0:Bool)(l1:aE)(n2 n3 n4:Int):EQ aK (Su b0 [aC (dF l1 n2 n3 n4)]) (aV b0 (aR (LU [aC (dF l1 n2 n3 n4)])) (cV (.call 94 [vs l1,vi n2,vs [47,42]] []) λ a=>bG a λ c=>jz c λ e=>aV e (aR (IV (i64.wrap (n2+2)) [aC (dF l1 n2 n3 n4)])) (.ret (.t [],[aC (dF l1 n2 n3 n4)])))):=aF
theorem qp(n0:Int)(b1 b2:Bool)(n3:Int)(l4:aE)(n5 n6 n7:Int)(l8:List V):EQ aK (X9 n0 b1 b2 [aC (dJ l4 n3 n5 n6 n7),aC l8]) (aV b2 (ob l8[1]? λ a=>bG a λ c=>cf .i64 c λ e=>ob l8[0]? λ f=>bG f λ g=>fJ g λ h=>aV (decide (i64.wrap (e+1)<(h.length:Int))) (ob l8[0]? λ j=>bG j λ k=>fJ k λ l=>ob l8[1]? λ m=>bG m λ n=>cf .i64 n λ o=>ob (bW l (i64.wrap (o+1))) λ q=>aV ((q.toNat:Int)==43) (aR (Vx n0 b1 true [aC (dJ l4 n3 n5 n6 n7),aC l8])) (ob l8[0]? λ r=>bG r λ t=>fJ t λ zu=>ob l8[1]? λ v=>bG v λ w=>cf .i64 w λ x=>ob (bW zu (i64.wrap (x+1))) λ y=>aR (Vx n0 b1 ((y.toNat:Int)==45) [aC (dJ l4 n3 n5 n6 n7),aC l8]))) (aR (Vx n0 b1 false [aC (dJ l4 n3 n5 n6 n7),aC l8]))) (aV b1 (ob l8[0]? λ z=>bG z λ a0=>fJ a0 λ a1=>ob l8[1]? λ a2=>bG a2 λ a3=>cf .i64 a3 λ a4=>aO (decide (0<=a4/\a4<=(a1.length:Int))) (aO (decide (0<=n0/\n0<=(a4.toNat:Int))) (cV (.call 149 [vs (List.take (a4.toNat-n0.toNat) (List.drop n0.toNat a1))] []) λ a5=>dI a5 λ a6=>aO (a6.length==2) (bG (cG a6 0) λ a7=>cf .i64 a7 λ a8=>bG (cG a6 1) λ a9=>cf .i64 a9 λ aa=>aR (IS aa [aC (dJ [] 2 a8 0 n0),aC (dJ l4 n3 n5 n6 n7),aC l8]))))) (ob l8[0]? λ ab=>bG ab λ ac=>fJ ac λ ad=>ob l8[1]? λ ae=>bG ae λ af=>cf .i64 af λ ag=>aO (decide (0<=ag/\ag<=(ad.length:Int))) (aO (decide (0<=n0/\n0<=(ag.toNat:Int))) (cV (.call 150 [vs (List.take (ag.toNat-n0.toNat) (List.drop n0.toNat ad))] []) λ ah=>dI ah λ ai=>aO (ai.length==2) (bG (cG ai 0) λ aj=>cf .u64 aj λ ak=>bG (cG ai 1) λ al=>cf .i64 al λ am=>aR (IS am [aC (dJ [] 3 0 ak n0),aC (dJ l4 n3 n5 n6 n7),aC l8]))))))):=aF
theorem u9(n0:Int)(b1:Bool)(n2:Int)(l3:aE)(n4 n5 n6:Int)(l7:aE)(n8 n9 n10:Int):EQ aK (SI n0 b1 [aC (dJ l3 n2 n4 n5 n6),aC (dF l7 n8 n9 n10)]) (aV b1 (c1 (.call 99 [.p 0 0] [aC (dF l7 n8 n9 n10)]) 4 [] λ o0 l3=>bG o0 λ d5=>j5 5 d5 λ l6=>aO ([.d (aH l6 0),.d (aH l6 1),.d (aH l6 2),.d (aH l6 3),.d (aH l6 4)].all V.one) (.ret (.d (.g [l6.getD 0 (.b false),l6.getD 1 (.b false),l6.getD 2 (.b false),l6.getD 3 (.b false),l6.getD 4 (.b false)]),[aC l3]))) (c1 (.call 95 [.p 0 0,vi 2,vi n0] [aC (dF l7 n8 n9 n10)]) 4 [] λ o7 l10=>dI o7 λ l12=>aO (l12.length==0) (.ret (.d (.g [.i .i64 0,.s [],.i .i64 0,.i .u64 0,.i .i64 0]),[aC l10])))):=aF
theorem vd(n0 n1:Int)(b2:Bool)(n3:Int)(l4:aE)(n5 n6 n7:Int)(l8:aE)(n9 n10 n11:Int):EQ aK (R0 (.d (.i .u8 n1)) n0 b2 [aC (dJ l4 n3 n5 n6 n7),aC (dF l8 n9 n10 n11)]) (aV b2 (aR (R2 (.d (.i .u8 n1)) n0 (i64.wrap (n0+1)) [aC (dJ l4 n3 n5 n6 n7),aC (dF l8 n9 n10 n11)])) (aR (R3 (.d (.i .u8 n1)) n0 0 [aC (dJ l4 n3 n5 n6 n7),aC (dF l8 n9 n10 n11)]))):=aF
theorem xg(l0:aE)(n1 n2 n3:Int):EQ aK (LU [aC (dF l0 n1 n2 n3)]) (aV (decide (n1<(l0.length:Int))) (ob (bW l0 n1) λ a=>aR (Sq ((a.toNat:Int) != 10) [aC (dF l0 n1 n2 n3)])) (aR (Sq false [aC (dF l0 n1 n2 n3)]))):=aF
theorem pf(n0:Int)(l1:aE)(n2 n3 n4:Int):EQ aK (IV n0 [aC (dF l1 n2 n3 n4)]) (aV (decide (n0<(l1.length:Int))) (cV (.call 94 [vs l1,vi n0,vs [42,47]] []) λ a=>bG a λ c=>jz c λ e=>aR (.at_ 45 1 (aJ 399316) (sv 146 [(0,.p 0 0),(3,vi n0),(125,vb !e)]) [] [aC (dF l1 n2 n3 n4)])) (aR (Wy n0 false [aC (dF l1 n2 n3 n4)]))):=aF
theorem ve(n0:Int)(l1:aE)(n2 n3:Int)(l4:aE)(n5 n6 n7:Int)(l8:List V):EQ aK (SC l1 n0 n2 [aC (dJ l4 n3 n5 n6 n7),aC l8]) (aV (decide (n2<(l1.length:Int))) (ob (bW l1 n2) λ a=>aV ((a.toNat:Int)==46) (aV (n2==i64.wrap ((l1.length:Int)-1)) (aR (Vj l1 n0 n2 true [aC (dJ l4 n3 n5 n6 n7),aC l8])) (ob (bW l1 (i64.wrap (n2+1))) λ c=>aR (Vj l1 n0 n2 ((c.toNat:Int)==46) [aC (dJ l4 n3 n5 n6 n7),aC l8]))) (aR (Vj l1 n0 n2 false [aC (dJ l4 n3 n5 n6 n7),aC l8]))) (.ret (.d (.g [.i .i64 1,.s l1,.i .i64 0,.i .u64 0,.i .i64 n0]),[aC l8]))):=aF
theorem nV(n0:Int)(b1 b2:Bool)(n3:Int)(l4:aE)(n5 n6 n7:Int)(l8:List V):EQ aK (Vx n0 b1 b2 [aC (dJ l4 n3 n5 n6 n7),aC l8]) (c1 (.call 148 [.p 0 0,vi 1] [aC l8]) l8.length [] λ a c=>bG a λ e=>jz e λ f=>aV f (aR (Vl n0 b1 b2 true [aC (dJ l4 n3 n5 n6 n7),aC c])) (aV b2 (c1 (.call 148 [.p 0 0,vi 2] [aC c]) c.length [] λ g h=>bG g λ j=>jz j λ k=>aR (Vl n0 b1 b2 k [aC (dJ l4 n3 n5 n6 n7),aC h])) (aR (Vl n0 b1 b2 false [aC (dJ l4 n3 n5 n6 n7),aC c])))):=aF
theorem Hg(n0 n1:Int)(l2:aE)(n3 n4 n5 n6:Int)(l7:aE)(n8 n9 n10:Int)(l11:List V):EQ aK (IS n0 [aC (dJ l2 n1 n3 n4 n5),aC (dJ l7 n6 n8 n9 n10),aC l11]) (c1 (.call 151 [.p 0 0,.d (.g [.i .i64 n1,.s l2,.i .i64 n3,.i .u64 n4,.i .i64 n5]),vi n0] [aC l11]) l11.length [] λ a c=>bG a λ e=>j5 5 e λ f=>aO ([.d (aH f 0),.d (aH f 1),.d (aH f 2),.d (aH f 3),.d (aH f 4)].all V.one) (.ret (.d (.g [f.getD 0 (.b false),f.getD 1 (.b false),f.getD 2 (.b false),f.getD 3 (.b false),f.getD 4 (.b false)]),[aC c]))):=aF
theorem sC(n0 n1 n2 n3:Int)(l4:aE)(n5 n6 n7:Int)(l8:aE)(n9 n10 n11:Int):EQ aK (R2 (.d (.i .u8 n1)) n0 n2 [aC (dJ l4 n3 n5 n6 n7),aC (dF l8 n9 n10 n11)]) (aV (decide (n2<(l8.length:Int))) (ob (bW l8 n2) λ a=>aV ((a.toNat:Int) != n1) (ob (bW l8 n2) λ c=>aR (Vm (.d (.i .u8 n1)) n0 n2 ((c.toNat:Int) != 10) [aC (dJ l4 n3 n5 n6 n7),aC (dF l8 n9 n10 n11)])) (aR (Vm (.d (.i .u8 n1)) n0 n2 false [aC (dJ l4 n3 n5 n6 n7),aC (dF l8 n9 n10 n11)]))) (aR (Vm (.d (.i .u8 n1)) n0 n2 false [aC (dJ l4 n3 n5 n6 n7),aC (dF l8 n9 n10 n11)]))):=aF
theorem nU(n0 n1 n2 n3:Int)(l4:aE)(n5 n6 n7:Int)(l8:aE)(n9 n10 n11:Int):EQ aK (R3 (.d (.i .u8 n1)) n0 n2 [aC (dJ l4 n3 n5 n6 n7),aC (dF l8 n9 n10 n11)]) (aV (decide (n2<13)) (ob (bW ([123,125,40,41,91,93,60,62,44,59,58,61,42]:aE) n2) λ c0=>aV ((c0.toNat:Int)==n1) (aO (decide (0<=i64.wrap (n0+1)/\i64.wrap (n0+1)<=(l8.length:Int))) (aO (decide (0<=n0/\n0<=((i64.wrap (n0+1)).toNat:Int))) (.ret (.d (.g [.i .i64 5,.s (List.take ((i64.wrap (n0+1)).toNat-n0.toNat) (List.drop n0.toNat l8)),.i .i64 0,.i .u64 0,.i .i64 n0]),[aC (dF l8 (i64.wrap (n9+1)) n10 n11)])))) (aR (R3 (.d (.i .u8 n1)) n0 (i64.wrap (n2+1)) [aC (dJ l4 n3 n5 n6 n7),aC (dF l8 n9 n10 n11)]))) (c1 (.call 95 [.p 0 0,vi 2,vi n0] [aC (dF l8 n9 n10 n11)]) 4 [] λ o1 l4=>dI o1 λ l6=>aO (l6.length==0) (.ret (.d (.g [.i .i64 0,.s [],.i .i64 0,.i .u64 0,.i .i64 0]),[aC l4])))):=aF
theorem uZ(b0:Bool)(l1:aE)(n2 n3 n4:Int):EQ aK (Sq b0 [aC (dF l1 n2 n3 n4)]) (aV b0 (aR (LU [aC (dF l1 (i64.wrap (n2+1)) n3 n4)])) (aR (BF [aC (dF l1 n2 n3 n4)]))):=aF
theorem nT(n0:Int)(b1:Bool)(l2:aE)(n3 n4 n5:Int):EQ aK (Wy n0 b1 [aC (dF l2 n3 n4 n5)]) (aV b1 (aR (IV (i64.wrap (n0+1)) [aC (dF l2 n3 n4 n5)])) (aV (decide (n0 ≥ (l2.length:Int))) (c1 (.call 95 [.p 0 0,vi 2,vi n3] [aC (dF l2 n3 n4 n5)]) 4 [] λ a c=>dI a λ e=>aO (e.length==0) (.ret (.t [],[aC c]))) (aR (BF [aC (dF l2 (i64.wrap (n0+2)) n4 n5)])))):=aF
theorem qW(n0:Int)(l1:aE)(n2:Int)(b3:Bool)(n4:Int)(l5:aE)(n6 n7 n8:Int)(l9:List V):EQ aK (Vj l1 n0 n2 b3 [aC (dJ l5 n4 n6 n7 n8),aC l9]) (aV b3 (c1 (.call 95 [.p 0 0,vi 2,vi n0] [aC l9]) l9.length [] λ a c=>dI a λ e=>aO (e.length==0) (aR (SC l1 n0 (i64.wrap (n2+1)) [aC (dJ l5 n4 n6 n7 n8),aC c]))) (aR (SC l1 n0 (i64.wrap (n2+1)) [aC (dJ l5 n4 n6 n7 n8),aC l9]))):=aF
theorem nW(n0:Int)(b_1 b_2 b_3:Bool)(n4:Int)(l5:aE)(n6 n7 n8:Int)(l9:List V):EQ aK (Vl n0 b_1 b_2 b_3 [aC (dJ l5 n4 n6 n7 n8),aC l9]) (aV b_3 (ob l9[1]? λ a=>bG a λ c=>cf .i64 c λ e=>aO (decide (1<l9.length)&&true) (aV b_2 (ob (l9.set 1 (vi (i64.wrap (e+1))))[1]? λ f=>bG f λ g=>cf .i64 g λ h=>aO (decide (1<(l9.set 1 (vi (i64.wrap (e+1)))).length)&&true) (c1 (.call 147 [.p 0 0] [aC ((l9.set 1 (vi (i64.wrap (e+1)))).set 1 (vi (i64.wrap (h+1))))]) (((l9.set 1 (vi (i64.wrap (e+1)))).set 1 (vi (i64.wrap (h+1)))).length) [] λ j k=>bG j λ l=>jz l λ m=>ob k[0]? λ n=>bG n λ o=>fJ o λ q=>ob k[1]? λ r=>bG r λ t=>cf .i64 t λ zu=>aO (decide (0<=zu/\zu<=(q.length:Int))) (aO (decide (0<=n0/\n0<=(zu.toNat:Int))) (cV (.call 150 [vs (List.take (zu.toNat-n0.toNat) (List.drop n0.toNat q))] []) λ v=>dI v λ w=>aO (w.length==2) (bG (cG w 0) λ x=>cf .u64 x λ y=>bG (cG w 1) λ z=>cf .i64 z λ a0=>aR (IS a0 [aC (dJ [] 3 0 y n0),aC (dJ l5 n4 n6 n7 n8),aC k])))))) (c1 (.call 147 [.p 0 0] [aC (l9.set 1 (vi (i64.wrap (e+1))))]) ((l9.set 1 (vi (i64.wrap (e+1)))).length) [] λ a1 a2=>bG a1 λ a3=>jz a3 λ a4=>ob a2[0]? λ a5=>bG a5 λ a6=>fJ a6 λ a7=>ob a2[1]? λ a8=>bG a8 λ a9=>cf .i64 a9 λ aa=>aO (decide (0<=aa/\aa<=(a7.length:Int))) (aO (decide (0<=n0/\n0<=(aa.toNat:Int))) (cV (.call 150 [vs (List.take (aa.toNat-n0.toNat) (List.drop n0.toNat a7))] []) λ ab=>dI ab λ ac=>aO (ac.length==2) (bG (cG ac 0) λ ad=>cf .u64 ad λ ae=>bG (cG ac 1) λ af=>cf .i64 af λ ag=>aR (IS ag [aC (dJ [] 3 0 ae n0),aC (dJ l5 n4 n6 n7 n8),aC a2]))))))) (aV b_1 (ob l9[0]? λ ah=>bG ah λ ai=>fJ ai λ aj=>ob l9[1]? λ ak=>bG ak λ al=>cf .i64 al λ am=>aO (decide (0<=am/\am<=(aj.length:Int))) (aO (decide (0<=n0/\n0<=(am.toNat:Int))) (cV (.call 149 [vs (List.take (am.toNat-n0.toNat) (List.drop n0.toNat aj))] []) λ an=>dI an λ ao=>aO (ao.length==2) (bG (cG ao 0) λ ap=>cf .i64 ap λ aq=>bG (cG ao 1) λ ar=>cf .i64 ar λ au=>aR (IS au [aC (dJ [] 2 aq 0 n0),aC (dJ l5 n4 n6 n7 n8),aC l9]))))) (ob l9[0]? λ av=>bG av λ aw=>fJ aw λ ax=>ob l9[1]? λ ay=>bG ay λ az=>cf .i64 az λ b0=>aO (decide (0<=b0/\b0<=(ax.length:Int))) (aO (decide (0<=n0/\n0<=(b0.toNat:Int))) (cV (.call 150 [vs (List.take (b0.toNat-n0.toNat) (List.drop n0.toNat ax))] []) λ b1=>dI b1 λ b2=>aO (b2.length==2) (bG (cG b2 0) λ b3=>cf .u64 b3 λ b4=>bG (cG b2 1) λ b5=>cf .i64 b5 λ b6=>aR (IS b6 [aC (dJ [] 3 0 b4 n0),aC (dJ l5 n4 n6 n7 n8),aC l9]))))))):=aF
theorem mH(n0 n1 n2:Int)(b3:Bool)(n4:Int)(l5:aE)(n6 n7 n8:Int)(l9:aE)(n10 n11 n12:Int):EQ aK (Vm (.d (.i .u8 n1)) n0 n2 b3 [aC (dJ l5 n4 n6 n7 n8),aC (dF l9 n10 n11 n12)]) (aV b3 (aR (R2 (.d (.i .u8 n1)) n0 (i64.wrap (n2+1)) [aC (dJ l5 n4 n6 n7 n8),aC (dF l9 n10 n11 n12)])) (aV (n2==(l9.length:Int)) (aR (RO n0 n2 true [aC (dJ l5 n4 n6 n7 n8),aC (dF l9 n10 n11 n12)])) (ob (bW l9 n2) λ a=>aR (RO n0 n2 ((a.toNat:Int)==10) [aC (dJ l5 n4 n6 n7 n8),aC (dF l9 n10 n11 n12)])))):=aF
theorem qV(n0 n1:Int)(b2:Bool)(n3:Int)(l4:aE)(n5 n6 n7:Int)(l8:aE)(n9 n10 n11:Int):EQ aK (RO n0 n1 b2 [aC (dJ l4 n3 n5 n6 n7),aC (dF l8 n9 n10 n11)]) (aV b2 (c1 (.call 95 [.p 0 0,vi 2,vi n0] [aC (dF l8 n9 n10 n11)]) 4 [] λ a c=>dI a λ e=>aO (e.length==0) (.ret (.d (.g [.i .i64 0,.s [],.i .i64 0,.i .u64 0,.i .i64 0]),[aC c]))) (aO (decide (0<=n1/\n1<=(l8.length:Int))) (aO (decide (0<=i64.wrap (n0+1)/\i64.wrap (n0+1)<=(n1.toNat:Int))) (.ret (.d (.g [.i .i64 4,.s (List.take (n1.toNat-(i64.wrap (n0+1)).toNat) (List.drop (i64.wrap (n0+1)).toNat l8)),.i .i64 0,.i .u64 0,.i .i64 n0]),[aC (dF l8 (i64.wrap (n1+1)) n10 n11)]))))):=aF
def aX(s:aE)(i e a:Int):Ob := .cells [.d (.s s),.d (.i .i64 i),.d (.i .i64 e),.d (.i .i64 a)] []
theorem drop_at{s:aE}{i:Nat}(h:i<s.length):∃c,s.drop i=c::s.drop (i+1)/\bW s (i:Int)=some c:=
 ⟨s[i],List.drop_eq_getElem_cons h,by rw[ct,abl h]⟩
theorem Cb(c:UInt8):rk prog aK (.call 96 [V.d (D.i .u8 (c.toNat:Int))] [])=some (.d (.b (k9 c)),[]):=by
 have YV:((c.toNat:Int)==95)=(c==95):=cY c 95;have fin:k9 c=((decide (97<=c.toNat)&&decide (c.toNat<=122))||(decide (65<=c.toNat)&&decide (c.toNat<=90))||c==95):=by unfold k9;cases (c==95)<;>cases decide (97<=c.toNat)<;>cases decide (c.toNat<=122)<;>cases decide (65<=c.toNat)<;>cases decide (c.toNat<=90)<;>rfl
 rw[e96,fin];by_cases h1:97<=c.toNat
 ·rw[bC];by_cases h2:c.toNat<=122
  ·rw[bC,aG,aa3 h1,aa3 h2];rfl
  ·rw[bB,bC,bB,aG,abf h2,abf (show ¬c.toNat<=90 by omega),Bool.and_false,Bool.and_false,YV];rfl
 ·rw[bB,abf h1];by_cases h3:65<=c.toNat
  ·rw[bC];by_cases h4:c.toNat<=90
   ·rw[bC,aG,aa3 h3,aa3 h4];rfl
   ·rw[bB,aG,abf h4,Bool.and_false,YV];rfl
  ·rw[bB,aG,abf h3,YV];rfl
theorem pd(c:UInt8):rk prog aK (.call 98 [V.d (D.i .u8 (c.toNat:Int))] [])=some (.d (.b (aP c)),[]):=by
 rw[e98];unfold aP;have d57:decide ((c.toNat:Int)<=57)=decide (c.toNat<=57):=by congr 1;exact propext (by omega)
 by_cases h:48<=c.toNat
 ·rw[bC,aG,d57,aa3 h];rfl
 ·rw[bB,aG,abf h];rfl
theorem Pj(c:UInt8):rk prog aK (.call 145 [V.d (D.i .u8 (c.toNat:Int))] [])=some (.d (.i .i64 (if ke c=true then(fE c:Int)else -1)),[]):=by
 have hlt:=c.toNat_lt;have last:∀b:Bool,b=decide (65<=c.toNat/\c.toNat<=70)->ke c=b->¬(97<=c.toNat)->¬c.toNat<=57->
   rk prog aK (LV (V.d (D.i .u8 (c.toNat:Int))) b [])=some (.d (.i .i64 (if ke c=true then(fE c:Int)else -1)),[]):=by
  intro b hb hx h1 h2;rw[rA,hx]
  cases b with
  |false=>rw[bH,aG];rfl
  |true=>
   have h3:=of_decide_eq_true hb.symm;have w1:u8.wrap ((c.toNat:Int)-65)=(c.toNat:Int)-65:=by rw[wrap_u8]<;>omega
   have w2:i64.wrap ((c.toNat:Int)-65)=(c.toNat:Int)-65:=bD;have w3:i64.wrap ((c.toNat:Int)-65+10)=(fE c:Int):=by unfold fE;rw[aaN h2,aaN h1,wrap_i64]<;>omega
   rw[bQ,aG,w1,w2,w3];rfl
 rw[aak,gJ (pd c)];have hB:ke c=(aP c||(decide (97<=c.toNat)&&decide (c.toNat<=102))||(decide (65<=c.toNat)&&decide (c.toNat<=70))):=rfl
 cases hd:aP c with
 |true=>
  have:=(iD c).1 hd;have w1:u8.wrap ((c.toNat:Int)-48)=(c.toNat:Int)-48:=by rw[wrap_u8]<;>omega
  have w2:i64.wrap ((c.toNat:Int)-48)=(fE c:Int):=by unfold fE;rw[aaR (by omega),wrap_i64]<;>omega
  rw[bQ,aG,w1,w2,hB,hd];rfl
 |false=>
  have hnd:¬(48<=c.toNat/\c.toNat<=57):=λ h=>by have:=(iD c).2 h;rw[hd]at this;cases this
  rw[hd,Bool.false_or]at hB;rw[bH];by_cases h1:97<=c.toNat
  ·rw[aa3 h1,Bool.true_and]at hB;rw[bC,aA,xa];by_cases h2:c.toNat<=102
   ·have w1:u8.wrap ((c.toNat:Int)-97)=(c.toNat:Int)-97:=by rw[wrap_u8]<;>omega
    have w2:i64.wrap ((c.toNat:Int)-97)=(c.toNat:Int)-97:=bD;have w3:i64.wrap ((c.toNat:Int)-97+10)=(fE c:Int):=by unfold fE;rw[cE,aaR h1,wrap_i64]<;>omega
    rw[aa3 h2]at hB;rw[aa3 (show (c.toNat:Int)<=102 by omega),bQ,aG,w1,w2,w3,hB];rfl
   ·rw[abf h2,abf (show ¬c.toNat<=70 by omega)]at hB
    have hB':ke c=false:=by rw[hB];simp
    rw[abf (show ¬(c.toNat:Int)<=102 by omega),bH,bC,aA,abf (show ¬(c.toNat:Int)<=70 by omega),rA,bH,aG,hB'];rfl
  ·rw[abf h1,Bool.false_and,Bool.false_or]at hB;rw[bB,aA,xa,bH];by_cases h3:65<=c.toNat
   ·have d70:decide ((c.toNat:Int)<=70)=decide (c.toNat<=70):=by congr 1;exact propext (by omega)
    rw[aa3 h3,Bool.true_and]at hB;rw[bC,aA,d70];exact last _ (by congr 1;exact propext (by omega)) hB h1 (by omega)
   ·rw[abf h3,Bool.false_and]at hB;rw[bB,aA,rA,bH,aG,hB];rfl
theorem tJ(s t:aE)(a:Nat)(ha:a<=s.length)(hs:s.length<=100000)(ht:t.length<=100):rk prog aK (.call 94 [vs s,vi (a:Int),vs t] [])=some (.d (.b ((s.drop a).take t.length==t)),[]):=by
 have w:i64.wrap ((a:Int)+(t.length:Int))=((a+t.length:Nat):Int):=bD;rw[e94,w];by_cases h:a+t.length<=s.length
 ·rw[bC,aN,aN,aG,abe,abe,Nat.add_sub_cancel_left]
 ·have hne:((s.drop a).take t.length==t)=false:=by rw[abr];intro e;have:=congrArg List.length e;rw[List.length_take,abB]at this;omega
  rw[bB,aG,hne]
theorem Dd(c:UInt8)(q:aE)(x y:UInt8):((c::q).take 2==[x,y])=decide (c=x/\q.head?=some y):=by
 rw[Bool.eq_iff_iff,beq_iff_eq,decide_eq_true_iff]
 cases q with
 |nil=>simp
 |cons d q=>simp
theorem mg(s:aE)(i e a n m:Int):rk prog aK (.call 95 [V.p 0 0,vi n,vi m] [aX s i e a])=some (.t [],[aX s i n m]):=by unfold aX;rw[YV,aG]
theorem sw(s:aE)(hs:s.length<=100000)(e a:Int)(n0:Nat):∀(m i:Nat),i+m=s.length->
  rk prog aK (LC (n0:Int) [aX s (i:Int) e a])=
   some (.d (.b (decide (n0<i+((s.drop i).takeWhile aP).length))),[aX s ((i+((s.drop i).takeWhile aP).length:Nat):Int) e a])
 |0,i,h=>by
  unfold aX;rw[Al,bB,aA,xb,bH,aG,abJ (by omega)];rw[show decide ((i:Int)>(n0:Int))=decide (n0<i+(List.takeWhile aP []).length) by congr 1;exact propext (by simp)];rfl
 |m+1,i,h=>by
  obtain⟨c,hd,hg⟩:=drop_at (show i<s.length by omega);have ih:=sw s hs e a n0 m (i+1) (by omega);have w1:=ca i;unfold aX at ih⊢;rw[Al,bC,bz hg,gJ (pd c),aA,xb,hd,List.takeWhile_cons]
  cases hc:aP c with
  |true=>
   rw[bQ,w1,aA,ih,aaR rfl,aaT,show i+1+((s.drop (i+1)).takeWhile aP).length=i+(((s.drop (i+1)).takeWhile aP).length+1) by omega]
  |false=>
   rw[bH,aG,aaN (by decide),abp,Nat.add_zero];rw[show decide ((i:Int)>(n0:Int))=decide (n0<i) by congr 1;exact propext (by omega)]
theorem uf(s:aE)(hs:s.length<=100000)(i:Nat)(hi:i<=s.length)(e a:Int):
  rk prog aK (.call 147 [V.p 0 0] [aX s (i:Int) e a])=some (.d (.b (decide ((s.drop i).takeWhile aP≠[]))),[aX s ((i+((s.drop i).takeWhile aP).length:Nat):Int) e a]):=by
 have h:=sw s hs e a i (s.length-i) i (by omega);have e1:decide (i<i+((s.drop i).takeWhile aP).length)=decide ((s.drop i).takeWhile aP≠[]):=by congr 1;apply propext;rw[<-abR];omega
 rw[<-e1,<-h];unfold aX;rw[aam,aA]
theorem G9(s:aE)(hs:s.length<=100000)(i n:Nat)(hi:i<=s.length)(hn:n<=100)(e a:Int):
  rk prog aK (.call 148 [V.p 0 0,vi (n:Int)] [aX s (i:Int) e a])=some (.d (.b (aP ((s.drop i).getD n 0))),[aX s (i:Int) e a]):=by
 have w1:i64.wrap ((i:Int)+(n:Int))=((i+n:Nat):Int):=bD;have hg:(s.drop i).getD n 0=s.getD (i+n) 0:=by rw[abG,abG,List.getElem?_drop]
 unfold aX;rw[aan,w1,hg];by_cases h:i+n<s.length
 ·have g:bW s ((i+n:Nat):Int)=some (s.getD (i+n) 0):=by rw[ct,abG,abl h];rfl
  rw[bC,bz g,gJ (pd _),aG]
 ·have g:s.getD (i+n) 0=0:=by rw[abG,abN (by omega)];rfl
  rw[bB,aG,g];rfl
abbrev we(o:Ob):Task:=BF [o]
theorem AY(s:aE)(hs:s.length<=100000)(e a:Int):∀(m i:Nat),i+m=s.length->
  rk prog aK (LU [aX s (i:Int) e a])=
   rk prog aK (we (aX s ((i+((s.drop i).takeWhile (· != 10)).length:Nat):Int) e a))
 |0,i,h=>by
  unfold aX;rw[xg,bB,aA,uZ,bH,aA,abJ (by omega)];rfl
 |m+1,i,h=>by
  obtain⟨c,hd,hg⟩:=drop_at (show i<s.length by omega);have ih:=AY s hs e a m (i+1) (by omega);have w1:=ca i;have e10:((c.toNat:Int) != 10)=(c != 10):=by rw[bne,bne,show ((c.toNat:Int)==10)=(c==10)from cY c 10]
  unfold aX at ih⊢;rw[xg,bC,bz hg,aA,uZ,e10,hd,List.takeWhile_cons]
  cases hc:(c != 10) with
  |true=>rw[bQ,w1,aA,ih,aaR rfl,aaT,show i+1+((s.drop (i+1)).takeWhile (· != 10)).length=i+(((s.drop (i+1)).takeWhile (· != 10)).length+1) by omega]
  |false=>rw[bH,aA,aaN (by decide),abp,Nat.add_zero]
theorem A7(s:aE)(hs:s.length<=100000)(p:Nat)(a:Int):∀(m k:Nat),k+m=s.length->
  rk prog aK (IV (k:Int) [aX s (p:Int) 0 a])=
   match Cd (s.drop k) with
   |none=>some (.t [],[aX s (p:Int) 2 (p:Int)])
   |some n=>rk prog aK (we (aX s ((k+n:Nat):Int) 0 a))
 |0,k,h=>by
  have hf:=mg s (p:Int) 0 a 2 (p:Int);rw[abJ (by omega)];unfold aX at hf⊢;rw[pf,bB,aA,nT,bH,bC,dZ hf (by rfl) (by rfl),aG];rfl
 |m+1,k,h=>by
  obtain⟨c,hd,hg⟩:=drop_at (show k<s.length by omega);have ih:=A7 s hs p a m (k+1) (by omega);have hst:=tJ s [42,47] k (by omega) hs (by decide);have hl:([42,47]:aE).length=2:=rfl;rw[hl,hd,Dd]at hst;have w1:=ca k;have w2:i64.wrap ((k:Int)+2)=((k+2:Nat):Int):=bD;rw[hd];unfold Cd;by_cases hc:c=42/\(s.drop (k+1)).head?=some 47
  ·rw[aa3 hc]at hst;rw[aaR hc];unfold aX;rw[pf,bC,gJ hst,aA,nT,Bool.not_true,bH,bB,w2,aA]
  ·rw[abf hc]at hst;rw[aaN hc];have go:rk prog aK (IV (k:Int) [aX s (p:Int) 0 a])=
     rk prog aK (IV ((k+1:Nat):Int) [aX s (p:Int) 0 a]):=by
    unfold aX;rw[pf,bC,gJ hst,aA,nT,Bool.not_false,bQ,w1,aA]
   rw[go,ih]
   cases Cd (s.drop (k+1)) with
   |none=>rfl
   |some n=>
    show _=rk prog aK (we (aX s ((k+(n+1):Nat):Int) 0 a));rw[show k+(n+1)=k+1+n by omega]
theorem w9(s:aE)(i:Nat)(hi:s.length<=i)(e a:Int):rk prog aK (we (aX s (i:Int) e a))=some (.t [],[aX s (i:Int) e a]):=by unfold we aX;rw[Cc,bB,aA,xf,bH,aG]
theorem Aj(s:aE)(hs:s.length<=100000)(i:Nat)(a:Int)(c:UInt8)(hi:i<s.length)(hg:bW s (i:Int)=some c)(hc:zL c=true):
  rk prog aK (we (aX s (i:Int) 0 a))=rk prog aK (we (aX s ((i+1:Nat):Int) 0 a)):=by
 have w1:=ca i;have e9:((c.toNat:Int)==9)=(c==9):=cY c 9;have e10:((c.toNat:Int)==10)=(c==10):=cY c 10;have e13:((c.toNat:Int)==13)=(c==13):=cY c 13;have e32:((c.toNat:Int)==32)=(c==32):=cY c 32;unfold zL at hc;unfold we aX;rw[Cc,bC,aA,abq,xf,bQ,bz hg,e9]
 cases h9:(c==9) with
 |true=>rw[bQ,aA,ka,bQ,w1,aA]
 |false=>
  rw[bH,e10]
  cases h10:(c==10) with
  |true=>rw[bQ,aA,ka,bQ,w1,aA]
  |false=>
   rw[bH,e13]
   cases h13:(c==13) with
   |true=>rw[bQ,aA,ka,bQ,w1,aA]
   |false=>
    rw[h9,h10,h13,Bool.false_or,Bool.false_or,Bool.false_or]at hc;rw[bH,e32,hc,aA,ka,bQ,w1,aA]
theorem Mx(s:aE)(i:Nat)(a:Int)(c:UInt8)(hi:i<s.length)(hg:bW s (i:Int)=some c)(hc:zL c=false):
  rk prog aK (we (aX s (i:Int) 0 a))=rk prog aK (Oj (V.d (D.i .u8 (c.toNat:Int))) false [aX s (i:Int) 0 a]):=by
 have e9:((c.toNat:Int)==9)=(c==9):=cY c 9;have e10:((c.toNat:Int)==10)=(c==10):=cY c 10;have e13:((c.toNat:Int)==13)=(c==13):=cY c 13;have e32:((c.toNat:Int)==32)=(c==32):=cY c 32;unfold zL at hc;simp only[Bool.or_eq_false_iff]at hc;obtain⟨⟨⟨h9,h10⟩,h13⟩,h32⟩:=hc;unfold we aX;rw[Cc,bC,aA,abq,xf,bQ,bz hg,e9,h9,bH,e10,h10,bH,e13,h13,bH,e32,h32,aA]
theorem DW(s:aE)(hs:s.length<=100000)(a:Int)(b:Nat):∀(f k:Nat),s.length<=b+k+f->b+k<=s.length->
  match fT f (s.drop (b+k)) k with
  |(k',false)=>rk prog aK (we (aX s ((b+k:Nat):Int) 0 a))=some (.t [],[aX s ((b+k':Nat):Int) 2 ((b+k':Nat):Int)])
  |(k',true)=>rk prog aK (we (aX s ((b+k:Nat):Int) 0 a))=some (.t [],[aX s ((b+k':Nat):Int) 0 a])
 |0,k,hf,hk=>w9 s (b+k) (by omega) 0 a
 |f+1,k,hf,hk=>by
  unfold fT;rcases abn (b+k) s.length with hlt|hge
  ·obtain⟨c,hd,hg⟩:=drop_at hlt;have hln:=(xQ (s.drop (b+k))).1;have hln1:=(xQ (s.drop (b+k))).2 (by rw[hd];simp);have hdl:(s.drop (b+k)).length=s.length-(b+k):=abB ..;have nxt:∀m:Nat,1<=m->b+k+m<=s.length->rk prog aK (we (aX s ((b+k:Nat):Int) 0 a))=rk prog aK (we (aX s ((b+k+m:Nat):Int) 0 a))->
     match fT f ((s.drop (b+k)).drop m) (k+m) with
     |(k',false)=>rk prog aK (we (aX s ((b+k:Nat):Int) 0 a))=some (.t [],[aX s ((b+k':Nat):Int) 2 ((b+k':Nat):Int)])
     |(k',true)=>rk prog aK (we (aX s ((b+k:Nat):Int) 0 a))=some (.t [],[aX s ((b+k':Nat):Int) 0 a]):=by
    intro m h1 h2 h3;have ih:=DW s hs a b f (k+m) (by omega) (by omega);rw[h3,List.drop_drop,aby];exact ih
   have st1:=tJ s [47,47] (b+k) (by omega) hs (by decide);have st2:=tJ s [47,42] (b+k) (by omega) hs (by decide);have hl1:([47,47]:aE).length=2:=rfl;have hl2:([47,42]:aE).length=2:=rfl;rw[hl1,hd,Dd]at st1;rw[hl2,hd,Dd]at st2;have e35:((c.toNat:Int)==35)=(c==35):=cY c 35
   cases hsp:zL c with
   |true=>
    rw[hd];simp only[hsp,if_true];have:=nxt 1 (by omega) (by omega) (Aj s hs (b+k) a c hlt hg hsp);rw[hd]at this;exact this
   |false=>
    have h0:=Mx s (b+k) a c hlt hg hsp;have line:(c=35\/(c=47/\(s.drop (b+k+1)).head?=some 47))->rk prog aK (we (aX s ((b+k:Nat):Int) 0 a))=rk prog aK (we (aX s ((b+k+sL (s.drop (b+k)):Nat):Int) 0 a)):=by
     intro h;have hL:=AY s hs 0 a (s.length-(b+k)) (b+k) (by omega);have hto:rk prog aK (we (aX s ((b+k:Nat):Int) 0 a))=rk prog aK (we (aX s ((b+k+((s.drop (b+k)).takeWhile (· != 10)).length:Nat):Int) 0 a)):=by
      rw[h0,<-hL];unfold aX;rw[ka,bH,e35];by_cases h35:c=35
      ·rw[eH (beq_iff_eq.2 h35),aA,qn,bQ,aA]
      ·have h47:c=47/\(s.drop (b+k+1)).head?=some 47:=h.resolve_left h35;rw[aa3 h47]at st1;rw[cX (abr.2 h35),gJ st1,aA,qn,bQ,aA]
     rw[hto];unfold sL;have hsum:((s.drop (b+k)).takeWhile (· != 10)).length+((s.drop (b+k)).dropWhile (· != 10)).length=(s.drop (b+k)).length:=by
      have:=congrArg List.length (List.takeWhile_append_dropWhile (p:=(· != (10:UInt8))) (l:=s.drop (b+k)))
      rwa[aaS]at this
     by_cases hnil:(s.drop (b+k)).dropWhile (· != 10)=[]
     ·rw[aaR hnil];rw[hnil,abp]at hsum;rw[show ((s.drop (b+k)).takeWhile (· != 10)).length=(s.drop (b+k)).length by omega]
     ·rw[aaN hnil,<-aby];have hpos:0<((s.drop (b+k)).dropWhile (· != 10)).length:=abR.2 hnil;have h10:bW s ((b+k+((s.drop (b+k)).takeWhile (· != 10)).length:Nat):Int)=some 10:=by
       have h1:=List.head?_dropWhile_not (λ x:UInt8=>x != 10) (s.drop (b+k));have h2:s.drop (b+k+((s.drop (b+k)).takeWhile (· != 10)).length)=(s.drop (b+k)).dropWhile (· != 10):=by
        rw[<-List.drop_drop];have h3:=List.takeWhile_append_dropWhile (p:=(· != (10:UInt8))) (l:=s.drop (b+k))
        calc (s.drop (b+k)).drop ((s.drop (b+k)).takeWhile (· != 10)).length
          = ((s.drop (b+k)).takeWhile (· != 10)++(s.drop (b+k)).dropWhile (· != 10)).drop ((s.drop (b+k)).takeWhile (· != 10)).length:=by rw[h3]
         _=_:=by rw[List.drop_left]
       rw[ct,<-List.head?_drop,h2]
       cases hh:((s.drop (b+k)).dropWhile (· != 10)).head? with
       |none=>rw[List.head?_eq_none_iff]at hh;exact absurd hh hnil
       |some x=>
        rw[hh]at h1;simp at h1;rw[h1]
      exact Aj s hs _ a 10 (by omega) h10 (by rfl)
    rw[hd]at hln hln1 hdl line nxt;rw[hd];simp only[hsp,Bool.false_eq_true,if_false];by_cases h2:c=35\/(c=47/\(s.drop (b+k+1)).head?=some 47)
    ·rw[aaR h2];exact nxt _ (by omega) (by omega) (line h2)
    ·rw[aaN h2];have h35:c≠35:=λ e=>h2 (Or.inl e);have hn1:¬(c=47/\(s.drop (b+k+1)).head?=some 47):=λ e=>h2 (Or.inr e);rw[abf hn1]at st1;by_cases h3:c=47/\(s.drop (b+k+1)).head?=some 42
     ·rw[aaR h3];rw[aa3 h3]at st2;have hlen1:b+k+2<=s.length:=by
       rcases abn (b+k+1) s.length with h|h
       ·omega
       ·rw[abJ h]at h3;exact absurd h3.2 (by simp)
      have w2:i64.wrap (((b+k:Nat):Int)+2)=((b+k+2:Nat):Int):=bD;have hN:=A7 s hs (b+k) a (s.length-(b+k+2)) (b+k+2) (by omega);have hto:rk prog aK (we (aX s ((b+k:Nat):Int) 0 a))=rk prog aK (IV ((b+k+2:Nat):Int) [aX s ((b+k:Nat):Int) 0 a]):=by rw[h0];unfold aX;rw[ka,bH,e35,cX (abr.2 h35),gJ st1,aA,qn,bH,gJ st2,bQ,w2,aA]
      have hdd:(s.drop (b+k+1)).drop 1=s.drop (b+k+2):=by rw[List.drop_drop]
      rw[hdd]
      cases he:Cd (s.drop (b+k+2)) with
      |none=>
       rw[he]at hN;exact hto.trans hN
      |some n=>
       rw[he]at hN;have hn:=Ce _ _ he;rw[abB]at hn;refine nxt (2+n) (by omega) (by omega) ?_;rw[hto,show b+k+(2+n)=b+k+2+n by omega];exact hN
     ·rw[aaN h3];rw[abf h3]at st2;show rk prog aK (we (aX s ((b+k:Nat):Int) 0 a))=_;rw[h0];unfold aX;rw[ka,bH,e35,cX (abr.2 h35),gJ st1,aA,qn,bH,gJ st2,bH,aG]
  ·have:=w9 s (b+k) hge 0 a;rw[abJ hge];exact this
theorem f58(b:Bool)(xs:List D):EQ aK (.call 152 [vl b xs] []) (aR (LM (xs.length:Int) b xs [])):=aF
theorem aar(n:Nat)(cs:List V):EQ aK (.call 152 [.m 0 0 n] [aC cs]) (aR (LX (.m 0 0 n) (n:Int) [aC cs])):=aF
theorem f30(n:Int):EQ aK (.call 101 [vu n] []) (cV (.call 152 [vl true [.i .u32 (u32.wrap n),.i .u32 (u32.wrap (n.fdiv 4294967296))]] []) λ a=>bG a λ b=>gX b λ c e => .ret (vl c e,[])):=aF
theorem f31(n:Int):EQ aK (.call 106 [vi n] []) (aV (decide (n<0)) (.ret (vl true [],[])) (aR (Lm n 0 true [.i .u32 1] []))):=aF
theorem f29(b:Bool)(xs:List D)(c:Bool)(ys:List D):EQ aK (.call 105 [vl b xs,vl c ys] []) (aO (decide (0<=i64.wrap (i64.wrap ((xs.length:Int)+(ys.length:Int))+1))) (aO (decide (i64.wrap (i64.wrap ((xs.length:Int)+(ys.length:Int))+1)=i64.wrap (i64.wrap ((xs.length:Int)+(ys.length:Int))+1))) (aO (decide (i64.wrap (i64.wrap ((xs.length:Int)+(ys.length:Int))+1)<=4294967296)) (aR (K9 (.m 0 0 (i64.wrap (i64.wrap ((xs.length:Int)+(ys.length:Int))+1)).toNat) 0 b c xs ys [aC (List.replicate (i64.wrap (i64.wrap ((xs.length:Int)+(ys.length:Int))+1)).toNat (.d (.i .u32 0)))]))))):=aF
theorem f57(b:Bool)(xs:List D)(n:Int):EQ aK (.call 155 [vl b xs,vi n] []) (aV (decide (n<(xs.length:Int))) (ob (bW xs n) λ a=>aO (a.width==1) (ob xs[n.toNat]? λ c=>ob c.cells[0]? λ e=>cf .u32 e λ f => .ret (vu (u64.wrap f),[]))) (.ret (vu 0,[]))):=aF
theorem f28(b:Bool)(xs:List D)(c:Bool)(ys:List D):EQ aK (.call 109 [vl b xs,vl c ys] []) (aR (VD 0 0 b c true xs ys [] [])):=aF
theorem f44(b:Bool)(xs:List D)(c:Bool)(ys:List D):EQ aK (.call 108 [vl b xs,vl c ys] []) (aR (Lo (i64.wrap ((if (ys.length:Int)>(xs.length:Int) then(ys.length:Int) else(xs.length:Int))-1)) b c xs ys [])):=aF
theorem f69(b:Bool)(xs:List D)(c:Bool)(ys:List D):EQ aK (.call 154 [vl b xs,vl c ys] []) (cV (.call 108 [vl b xs,vl c ys] []) λ a=>bG a λ e=>cf .i64 e λ f=>aV (decide (f<0)) (.ret (.t [vl true [],vb false],[])) (aR (VC 0 0 b c true xs ys [] []))):=aF
theorem f59(b:Bool)(xs:List D)(n:Int):EQ aK (.call 153 [vl b xs,vi n] []) (cV (.call 155 [vl b xs,vi (i64.wrap (n.tdiv 32))] []) λ a=>bG a λ c=>cf .u64 c λ e=>aO (decide (0<=n.tmod 32)) (.ret (vu (u64.wrap ((BitVec.ofInt u64.bits (e.fdiv (2^min (n.tmod 32).toNat 64)) &&& BitVec.ofInt u64.bits 1).toNat:Int)),[]))):=aF
theorem f41(b:Bool)(xs:List D):EQ aK (.call 103 [vl b xs] []) (cV (.call 152 [vl b xs] []) λ a=>bG a λ c=>gX c λ e f=>aR (LN (i64.wrap (32*(f.length:Int))) e f [])):=aF
theorem f40(b:Bool)(xs:List D)(n:Int):EQ aK (.call 102 [vl b xs,vi n] []) (aO (decide (0<=i64.wrap (i64.wrap ((xs.length:Int)+i64.wrap ((if 0>n then 0 else n).tdiv 32))+1))) (aO (decide (i64.wrap (i64.wrap ((xs.length:Int)+i64.wrap ((if 0>n then 0 else n).tdiv 32))+1)=i64.wrap (i64.wrap ((xs.length:Int)+i64.wrap ((if 0>n then 0 else n).tdiv 32))+1))) (aO (decide (i64.wrap (i64.wrap ((xs.length:Int)+i64.wrap ((if 0>n then 0 else n).tdiv 32))+1)<=4294967296)) (aR (SV (.m 0 0 (i64.wrap (i64.wrap ((xs.length:Int)+i64.wrap ((if 0>n then 0 else n).tdiv 32))+1)).toNat) n 0 b xs [aC (List.replicate (i64.wrap (i64.wrap ((xs.length:Int)+i64.wrap ((if 0>n then 0 else n).tdiv 32))+1)).toNat (.d (.i .u32 0)))]))))):=aF
theorem f43(b:Bool)(xs:List D)(c:Bool)(ys:List D):EQ aK (.call 107 [vl b xs,vl c ys] []) (cV (.call 152 [vl c ys] []) λ a=>bG a λ e=>gX e λ f g=>aV ((g.length:Int)==0) (.ret (.t [vl true [],vl true [],vb false],[])) (aO (decide (0<=i64.wrap ((xs.length:Int)+1))) (aO (decide (i64.wrap ((xs.length:Int)+1)=i64.wrap ((xs.length:Int)+1))) (aO (decide (i64.wrap ((xs.length:Int)+1)<=4294967296)) (aR (Ww (.m 0 0 (i64.wrap ((xs.length:Int)+1)).toNat) (i64.wrap (i64.wrap (32*(xs.length:Int))-1)) b c true xs ys [] [aC (List.replicate (i64.wrap ((xs.length:Int)+1)).toNat (.d (.i .u32 0)))])))))):=aF
theorem f45(b:Bool)(xs:List D):EQ aK (.call 110 [vl b xs] []) (cV (.call 155 [vl b xs,vi 0] []) λ a=>bG a λ c=>cf .u64 c λ e=>cV (.call 155 [vl b xs,vi 1] []) λ f=>bG f λ g=>cf .u64 g λ h => .ret (vu (u64.wrap ((BitVec.ofInt u64.bits e ||| BitVec.ofInt u64.bits (u64.wrap (h*4294967296))).toNat:Int)),[])):=aF
theorem f60(q e:Int):EQ aK (.call 215 [vu q,vi e] []) (aV (q==9007199254740992) (aR (LR (u64.wrap (q.tdiv 2)) (i64.wrap (e+1)) [])) (aR (LR q e []))):=aF
theorem f32(b:Bool)(xs:List D)(c:Bool)(ys:List D):EQ aK (.call 189 [vl b xs,vl c ys] []) (aV ((xs.length:Int)==0) (.ret (.t [vu 0,vb true],[])) (cV (.call 103 [vl b xs] []) λ a=>bG a λ e=>cf .i64 e λ f=>cV (.call 103 [vl c ys] []) λ g=>bG g λ h=>cf .i64 h λ j=>aR (Oi (if -1074>i64.wrap (i64.wrap (f-j)-53)then -1074 else i64.wrap (i64.wrap (f-j)-53)) b c xs ys []))):=aF
theorem f42(b:Bool)(xs:List D)(c:Bool)(ys:List D)(n:Int):EQ aK (.call 104 (Tz n b c xs ys) []) (aV (decide (n ≥ 0)) (cV (.call 106 [vi n] []) λ a=>bG a λ e=>gX e λ f g=>cV (.call 105 [vl c ys,vl f g] []) λ h=>bG h λ j=>gX j λ k m=>cV (.call 108 [vl b xs,vl k m] []) λ o=>bG o λ p=>cf .i64 p λ q => .ret (vb (decide (q ≥ 0)),[])) (cV (.call 106 [vi (i64.wrap (0-n))] []) λ r=>bG r λ s=>gX s λ t zu=>cV (.call 105 [vl b xs,vl t zu] []) λ v=>bG v λ w=>gX w λ x y=>cV (.call 108 [vl x y,vl c ys] []) λ z=>bG z λ a0=>cf .i64 a0 λ a1 => .ret (vb (decide (a1 ≥ 0)),[]))):=aF
theorem f27(s:aE):EQ aK (.call 188 [vs s] []) (aV ((s.length:Int)==0) (.ret (.t [vi 0,vb false,vi 0],[])) (ob (bW s 0) λ a=>aV ((a.toNat:Int) != 101) (ob (bW s 0) λ c=>aR (LJ s ((c.toNat:Int) != 69) [])) (aR (LJ s false [])))):=aF
theorem f14(s:aE):EQ aK (.call 150 [vs s] []) (aV (decide ((s.length:Int)>0)) (ob (bW s 0) λ a=>aV ((a.toNat:Int)==43) (aR (Li s 0 true [])) (ob (bW s 0) λ c=>aR (Li s 0 ((c.toNat:Int)==45) []))) (aR (Li s 0 false []))):=aF
theorem f16(q:Int):EQ aK (.call 48 [vu q] []) (aV (q.fdiv 9223372036854775808==1) (aR (LO [45] q [])) (aR (LO [] q []))):=aF
theorem Eu(b0:Bool)(l1:List D)(n2:Int):EQ aK (LM n2 b0 l1 []) (aV (decide (n2>0)) (ob (bW l1 (i64.wrap (n2-1))) λ a=>aO (a.width==1) (ob l1[(i64.wrap (n2-1)).toNat]? λ c=>ob c.cells[0]? λ e=>cf .u32 e λ f=>aR (Sm n2 b0 (f==0) l1 []))) (aR (Sm n2 b0 false l1 []))):=aF
theorem xx(m0:Nat)(n1:Int)(l2:List V):EQ aK (LX (.m 0 0 m0) n1 [aC l2]) (aV (decide (n1>0)) (aO (decide (0<=i64.wrap (n1-1)/\i64.wrap (n1-1)<(m0:Int))) (ob l2[0+(i64.wrap (n1-1)).toNat]? λ a=>bG a λ c=>cf .u32 c λ e=>aR (Sv (.m 0 0 m0) n1 (e==0) [aC l2]))) (aR (Sv (.m 0 0 m0) n1 false [aC l2]))):=aF
theorem Ej(n0:Int)(b1:Bool)(l2:List D)(n3:Int):EQ aK (Lm n0 n3 b1 l2 []) (aV (decide (n3<n0)) (cV (.call 105 [vl b1 l2,vl true [.i .u32 10]] []) λ a=>bG a λ b=>gX b λ c e=>aR (Lm n0 (i64.wrap (n3+1)) c e [])) (.ret (vl b1 l2,[]))):=aF
theorem Ei(b0:Bool)(l1:List D)(b2:Bool)(l3:List D)(m4:Nat)(n5:Int)(l6:List V):EQ aK (K9 (.m 0 0 m4) n5 b0 b2 l1 l3 [aC l6]) (aV (decide (n5<(l1.length:Int))) (aR (R4 (.m 0 0 m4) n5 0 0 b0 b2 l1 l3 [aC l6])) (c1 (.call 152 [.m 0 0 m4] [aC l6]) l6.length [] λ o0 l3=>bG o0 λ d5=>gX d5 λ b6 l7 => .ret (vl b6 l7,[]))):=aF
theorem Eh(b0:Bool)(l1:List D)(b2:Bool)(l3:List D)(b4:Bool)(l5:List D)(n6 n7:Int):EQ aK (VD n6 n7 b0 b2 b4 l1 l3 l5 []) (aV (decide (n7<(l1.length:Int))) (aR (Vn n6 n7 b0 b2 b4 true l1 l3 l5 [])) (aV (decide (n7<(l3.length:Int))) (aR (Vn n6 n7 b0 b2 b4 true l1 l3 l5 [])) (aR (Vn n6 n7 b0 b2 b4 (decide (n6>0)) l1 l3 l5 [])))):=aF
theorem En(b0:Bool)(l1:List D)(b2:Bool)(l3:List D)(n4:Int):EQ aK (Lo n4 b0 b2 l1 l3 []) (aV (decide (n4 ≥ 0)) (cV (.call 155 [vl b0 l1,vi n4] []) λ a=>bG a λ b=>cf .u64 b λ c=>cV (.call 155 [vl b2 l3,vi n4] []) λ e=>bG e λ f=>cf .u64 f λ g=>aV (decide (c<g)) (.ret (vi (-1),[])) (cV (.call 155 [vl b0 l1,vi n4] []) λ h=>bG h λ j=>cf .u64 j λ k=>cV (.call 155 [vl b2 l3,vi n4] []) λ m=>bG m λ n=>cf .u64 n λ o=>aV (decide (k>o)) (.ret (vi 1,[])) (aR (Lo (i64.wrap (n4-1)) b0 b2 l1 l3 [])))) (.ret (vi 0,[]))):=aF
theorem AB(b0:Bool)(l1:List D)(b2:Bool)(l3:List D)(b4:Bool)(l5:List D)(n6 n7:Int):EQ aK (VC n6 n7 b0 b2 b4 l1 l3 l5 []) (aV (decide (n7<(l1.length:Int))) (cV (.call 155 [vl b0 l1,vi n7] []) λ a=>bG a λ c=>cf .u64 c λ e=>cV (.call 155 [vl b2 l3,vi n7] []) λ f=>bG f λ g=>cf .u64 g λ h=>aO (bA 1 l5) (aO (b4||true) (aO (decide (l5.length+1<=4294967296)) (aR (VC (u64.wrap (1-(u64.wrap (u64.wrap (u64.wrap (e+4294967296)-h)-n6)).fdiv 4294967296)) (i64.wrap (n7+1)) b0 b2 (b4&&false) l1 l3 (l5++[.i .u32 (u32.wrap (u64.wrap (u64.wrap (u64.wrap (e+4294967296)-h)-n6)))]) []))))) (cV (.call 152 [vl b4 l5] []) λ j=>bG j λ k=>gX k λ m n => .ret (.t [vl m n,vb true],[]))):=aF
theorem Em(b0:Bool)(l1:List D)(n2:Int):EQ aK (LN n2 b0 l1 []) (aV (decide (n2>0)) (cV (.call 153 [vl b0 l1,vi (i64.wrap (n2-1))] []) λ a=>bG a λ c=>cf .u64 c λ e=>aR (Sn n2 b0 (e==0) l1 [])) (aR (Sn n2 b0 false l1 []))):=aF
theorem Ek(b0:Bool)(l1:List D)(n2:Int)(m3:Nat)(n4:Int)(l5:List V):EQ aK (SV (.m 0 0 m3) n2 n4 b0 l1 [aC l5]) (aV (decide (n4<i64.wrap (32*(l1.length:Int)))) (cV (.call 153 [vl b0 l1,vi n4] []) λ a=>bG a λ c=>cf .u64 c λ e=>aV (e==1) (aR (Sb (.m 0 0 m3) n2 n4 b0 (decide (i64.wrap (n4+n2) ≥ 0)) l1 [aC l5])) (aR (Sb (.m 0 0 m3) n2 n4 b0 false l1 [aC l5]))) (c1 (.call 152 [.m 0 0 m3] [aC l5]) l5.length [] λ f g=>bG f λ h=>gX h λ j k => .ret (vl j k,[]))):=aF
theorem uo(b0:Bool)(l1:List D)(b2:Bool)(l3:List D)(m4:Nat)(b5:Bool)(l6:List D)(n7:Int)(l8:List V):EQ aK (Ww (.m 0 0 m4) n7 b0 b2 b5 l1 l3 l6 [aC l8]) (aV (decide (n7 ≥ 0)) (cV (.call 109 [vl b5 l6,vl b5 l6] []) λ a=>bG a λ c=>gX c λ e f=>cV (.call 153 [vl b0 l1,vi n7] []) λ g=>bG g λ h=>cf .u64 h λ j=>cV (.call 101 [vu j] []) λ k=>bG k λ n=>gX n λ o p=>cV (.call 109 [vl e f,vl o p] []) λ q=>bG q λ r=>gX r λ s zu=>cV (.call 154 [vl s zu,vl b2 l3] []) λ v=>dI v λ w=>aO (w.length==2) (bG (cG w 0) λ x=>gX x λ y z=>bG (cG w 1) λ a0=>jz a0 λ a1=>aV a1 (aO (decide (0<=i64.wrap (n7.tdiv 32)/\i64.wrap (n7.tdiv 32)<(m4:Int))) (ob l8[0+(i64.wrap (n7.tdiv 32)).toNat]? λ a2=>bG a2 λ a3=>cf .u32 a3 λ a4=>aO (decide (0<=n7.tmod 32)) (aO (decide (0<=i64.wrap (n7.tdiv 32)/\i64.wrap (n7.tdiv 32)<(m4:Int))) (aO (decide (0+(i64.wrap (n7.tdiv 32)).toNat<l8.length)&&true) (aR (SM (.m 0 0 m4) n7 b0 b2 y l1 l3 z [aC (l8.set (0+(i64.wrap (n7.tdiv 32)).toNat) (.d (.i .u32 (u32.wrap ((BitVec.ofInt u32.bits a4 ||| BitVec.ofInt u32.bits (u32.wrap (1*2^min (n7.tmod 32).toNat 32))).toNat:Int)))))])))))) (aR (SM (.m 0 0 m4) n7 b0 b2 s l1 l3 zu [aC l8])))) (c1 (.call 152 [.m 0 0 m4] [aC l8]) l8.length [] λ a5 a6=>bG a5 λ a7=>gX a7 λ a8 a9 => .ret (.t [vl a8 a9,vl b5 l6,vb true],[]))):=aF
theorem Ud(n0 n1:Int):EQ aK (LR n0 n1 []) (aV (decide (n0<4503599627370496)) (.ret (.t [vu n0,vb true],[])) (aV (decide (n1>971)) (.ret (.t [vu 0,vb false],[])) (.ret (.t [vu (u64.wrap ((BitVec.ofInt u64.bits (u64.wrap (u64.wrap (i64.wrap (n1+1075))*4503599627370496)) ||| BitVec.ofInt u64.bits (u64.wrap (n0-4503599627370496))).toNat:Int)),vb true],[])))):=aF
theorem PC(b0:Bool)(l1:List D)(b2:Bool)(l3:List D)(n4:Int):EQ aK (Oi n4 b0 b2 l1 l3 []) (cV (.call 102 [vl b0 l1,vi (if 0>i64.wrap (0-n4)then 0 else i64.wrap (0-n4))] []) λ a=>bG a λ c=>gX c λ e f=>cV (.call 102 [vl b2 l3,vi (if 0>n4 then 0 else n4)] []) λ g=>bG g λ h=>gX h λ j k=>cV (.call 107 [vl e f,vl j k] []) λ m=>dI m λ n=>aO (n.length==3) (bG (cG n 0) λ o=>gX o λ p q=>bG (cG n 1) λ r=>gX r λ s t=>bG (cG n 2) λ zu=>jz zu λ v=>cV (.call 103 [vl p q] []) λ w=>bG w λ x=>cf .i64 x λ y=>aV (decide (y>53)) (aR (Oi (i64.wrap (n4+1)) b0 b2 l1 l3 [])) (cV (.call 109 [vl s t,vl s t] []) λ z=>bG z λ a0=>gX a0 λ a1 a2=>cV (.call 108 [vl a1 a2,vl j k] []) λ a3=>bG a3 λ a4=>cf .i64 a4 λ a5=>aV (decide (a5>0)) (aR (SW n4 p true q [])) (aV (a5==0) (cV (.call 153 [vl p q,vi 0] []) λ a6=>bG a6 λ a7=>cf .u64 a7 λ a8=>aR (SW n4 p (a8==1) q [])) (aR (SW n4 p false q [])))))):=aF
theorem Ee(l0:aE)(b1:Bool):EQ aK (LJ l0 b1 []) (aV b1 (.ret (.t [vi 0,vb false,vi 2],[])) (aO (decide ((0:Int)<=1/\1<=(l0.length:Int))) (aV (decide (((List.take (l0.length-1) (List.drop 1 l0)).length:Int)>0)) (ob (bW (List.take (l0.length-1) (List.drop 1 l0)) 0) λ a=>aV ((a.toNat:Int)==43) (aR (SX (List.take (l0.length-1) (List.drop 1 l0)) false true [])) (ob (bW (List.take (l0.length-1) (List.drop 1 l0)) 0) λ c=>aR (SX (List.take (l0.length-1) (List.drop 1 l0)) false ((c.toNat:Int)==45) []))) (aR (SX (List.take (l0.length-1) (List.drop 1 l0)) false false []))))):=aF
theorem xq(l0:aE)(n1:Int)(b2:Bool):EQ aK (Li l0 n1 b2 []) (aV b2 (ob (bW l0 0) λ a=>aV ((a.toNat:Int)==45) (aR (LI l0 9223372036854775808 [])) (aR (LI l0 n1 []))) (aR (SE l0 n1 0 true false [] []))):=aF
theorem PA(n0:Int)(l1:aE):EQ aK (LO l1 n0 []) (aV (i64.wrap (u64.wrap ((BitVec.ofInt u64.bits (n0.fdiv 4503599627370496) &&& BitVec.ofInt u64.bits 2047).toNat:Int))==2047) (.ret (vs [],[])) (aV (i64.wrap (u64.wrap ((BitVec.ofInt u64.bits (n0.fdiv 4503599627370496) &&& BitVec.ofInt u64.bits 2047).toNat:Int))==0) (aR (Se l1 (i64.wrap (u64.wrap ((BitVec.ofInt u64.bits (n0.fdiv 4503599627370496) &&& BitVec.ofInt u64.bits 2047).toNat:Int))) (u64.wrap ((BitVec.ofInt u64.bits n0 &&& BitVec.ofInt u64.bits 4503599627370495).toNat:Int)) (u64.wrap ((BitVec.ofInt u64.bits n0 &&& BitVec.ofInt u64.bits 4503599627370495).toNat:Int)==0) [])) (aR (Se l1 (i64.wrap (u64.wrap ((BitVec.ofInt u64.bits (n0.fdiv 4503599627370496) &&& BitVec.ofInt u64.bits 2047).toNat:Int))) (u64.wrap ((BitVec.ofInt u64.bits n0 &&& BitVec.ofInt u64.bits 4503599627370495).toNat:Int)) false [])))):=aF
theorem AA(b0:Bool)(l1:List D)(n2:Int)(b3:Bool):EQ aK (Sm n2 b0 b3 l1 []) (aV b3 (aR (LM (i64.wrap (n2-1)) b0 l1 [])) (aO (decide (0<=n2/\n2<=(l1.length:Int))) (aO (bA 1 l1) (aO (bA 1 (List.take (n2.toNat-0) (List.drop 0 l1))) (aO (decide (0+(List.take (n2.toNat-0) (List.drop 0 l1)).length<=4294967296)) (.ret (vl (List.take (n2.toNat-0) (List.drop 0 l1)).isEmpty ([]++List.take (n2.toNat-0) (List.drop 0 l1)),[]))))))):=aF
theorem vk(m0:Nat)(n1:Int)(b2:Bool)(l3:List V):EQ aK (Sv (.m 0 0 m0) n1 b2 [aC l3]) (aV b2 (aR (LX (.m 0 0 m0) (i64.wrap (n1-1)) [aC l3])) (aO (decide (0<=n1/\n1<=(m0:Int))) (ob (dK [aC l3] 1 (.m 0 0 (n1.toNat-0))) λ a=>aO (bA 1 a) (aO (decide (0+a.length<=4294967296)) (.ret (vl a.isEmpty ([]++a),[aC l3])))))):=aF
theorem vj(b0:Bool)(l1:List D)(b2:Bool)(l3:List D)(m4:Nat)(n5 n6 n7:Int)(l8:List V):EQ aK (R4 (.m 0 0 m4) n5 n6 n7 b0 b2 l1 l3 [aC l8]) (aV (decide (n7<(l3.length:Int))) (aO (decide (0<=i64.wrap (n5+n7)/\i64.wrap (n5+n7)<(m4:Int))) (ob l8[0+(i64.wrap (n5+n7)).toNat]? λ a=>bG a λ b=>cf .u32 b λ c=>ob (bW l1 n5) λ e=>aO (e.width==1) (ob l1[n5.toNat]? λ f=>ob f.cells[0]? λ g=>cf .u32 g λ h=>ob (bW l3 n7) λ j=>aO (j.width==1) (ob l3[n7.toNat]? λ k=>ob k.cells[0]? λ n=>cf .u32 n λ o=>aO (decide (0<=i64.wrap (n5+n7)/\i64.wrap (n5+n7)<(m4:Int))) (aO (decide (0+(i64.wrap (n5+n7)).toNat<l8.length)&&true) (aR (R4 (.m 0 0 m4) n5 ((u64.wrap (u64.wrap (n6+u64.wrap c)+u64.wrap (u64.wrap h*u64.wrap o))).fdiv 4294967296) (i64.wrap (n7+1)) b0 b2 l1 l3 [aC (l8.set (0+(i64.wrap (n5+n7)).toNat) (.d (.i .u32 (u32.wrap (u64.wrap (u64.wrap (n6+u64.wrap c)+u64.wrap (u64.wrap h*u64.wrap o)))))))]))))))) (aO (decide (0<=i64.wrap (n5+(l3.length:Int))/\i64.wrap (n5+(l3.length:Int))<(m4:Int))) (aO (decide (0+(i64.wrap (n5+(l3.length:Int))).toNat<l8.length)&&true) (aR (K9 (.m 0 0 m4) (i64.wrap (n5+1)) b0 b2 l1 l3 [aC (l8.set (0+(i64.wrap (n5+(l3.length:Int))).toNat) (.d (.i .u32 (u32.wrap n6))))]))))):=aF
theorem um(b0:Bool)(l1:List D)(b2:Bool)(l3:List D)(b4:Bool)(l5:List D)(n6 n7:Int)(b8:Bool):EQ aK (Vn n6 n7 b0 b2 b4 b8 l1 l3 l5 []) (aV b8 (cV (.call 155 [vl b0 l1,vi n7] []) λ o0=>bG o0 λ d1=>cf .u64 d1 λ n2=>cV (.call 155 [vl b2 l3,vi n7] []) λ o3=>bG o3 λ d4=>cf .u64 d4 λ n5=>aO (bA 1 l5) (aO (b4||true) (aO (decide (l5.length+1<=4294967296)) (aR (VD ((u64.wrap (u64.wrap (n6+n2)+n5)).fdiv 4294967296) (i64.wrap (n7+1)) b0 b2 (b4&&false) l1 l3 (l5++[.i .u32 (u32.wrap (u64.wrap (u64.wrap (n6+n2)+n5)))]) []))))) (cV (.call 152 [vl b4 l5] []) λ o6=>bG o6 λ d7=>gX d7 λ b8 l9 => .ret (vl b8 l9,[]))):=aF
theorem Ax(b0:Bool)(l1:List D)(n2:Int)(b3:Bool):EQ aK (Sn n2 b0 b3 l1 []) (aV b3 (aR (LN (i64.wrap (n2-1)) b0 l1 [])) (.ret (vi n2,[]))):=aF
theorem xv(b0:Bool)(l1:List D)(n2:Int)(m3:Nat)(n4:Int)(b5:Bool)(l6:List V):EQ aK (Sb (.m 0 0 m3) n2 n4 b0 b5 l1 [aC l6]) (aV b5 (aO (decide (0<=i64.wrap ((i64.wrap (n4+n2)).tdiv 32)/\i64.wrap ((i64.wrap (n4+n2)).tdiv 32)<(m3:Int))) (ob l6[0+(i64.wrap ((i64.wrap (n4+n2)).tdiv 32)).toNat]? λ a=>bG a λ c=>cf .u32 c λ e=>aO (decide (0<=(i64.wrap (n4+n2)).tmod 32)) (aO (decide (0<=i64.wrap ((i64.wrap (n4+n2)).tdiv 32)/\i64.wrap ((i64.wrap (n4+n2)).tdiv 32)<(m3:Int))) (aO (decide (0+(i64.wrap ((i64.wrap (n4+n2)).tdiv 32)).toNat<l6.length)&&true) (aR (SV (.m 0 0 m3) n2 (i64.wrap (n4+1)) b0 l1 [aC (l6.set (0+(i64.wrap ((i64.wrap (n4+n2)).tdiv 32)).toNat) (.d (.i .u32 (u32.wrap ((BitVec.ofInt u32.bits e ||| BitVec.ofInt u32.bits (u32.wrap (1*2^min ((i64.wrap (n4+n2)).tmod 32).toNat 32))).toNat:Int)))))])))))) (aR (SV (.m 0 0 m3) n2 (i64.wrap (n4+1)) b0 l1 [aC l6]))):=aF
theorem nX(b0:Bool)(l1:List D)(b2:Bool)(l3:List D)(m4:Nat)(b5:Bool)(l6:List D)(n7:Int)(l8:List V):EQ aK (SM (.m 0 0 m4) n7 b0 b2 b5 l1 l3 l6 [aC l8]) (aR (.at_ 107 0 (aJ 175) (sq3 (.m 0 0 m4) (i64.wrap (n7-1)) b0 b2 b5 l1 l3 l6) [] [aC l8])):=aF
theorem Hu(n0:Int)(b1:Bool)(l2:List D)(b3:Bool):EQ aK (SW n0 b1 b3 l2 []) (aV b3 (cV (.call 101 [vu 1] []) λ a=>bG a λ c=>gX c λ e f=>cV (.call 109 [vl b1 l2,vl e f] []) λ g=>bG g λ h=>gX h λ j k=>cV (.call 110 [vl j k] []) λ m=>bG m λ n=>cf .u64 n λ o=>cV (.call 215 [vu o,vi n0] []) λ p=>dI p λ q=>aO (q.length==2) (bG (cG q 0) λ r=>cf .u64 r λ s=>bG (cG q 1) λ zu=>jz zu λ v => .ret (.t [vu s,vb v],[]))) (cV (.call 110 [vl b1 l2] []) λ w=>bG w λ x=>cf .u64 x λ y=>cV (.call 215 [vu y,vi n0] []) λ z=>dI z λ a0=>aO (a0.length==2) (bG (cG a0 0) λ a1=>cf .u64 a1 λ a2=>bG (cG a0 1) λ a3=>jz a3 λ a4 => .ret (.t [vu a2,vb a4],[])))):=aF
theorem uk(l0:aE)(b1 b2:Bool):EQ aK (SX l0 b1 b2 []) (aV b2 (ob (bW l0 0) λ a=>aO (decide ((0:Int)<=1/\1<=(l0.length:Int))) (aV (((List.take (l0.length-1) (List.drop 1 l0)).length:Int)==0) (.ret (.t [vi 0,vb false,vi 2],[])) (aR (SQ (List.take (l0.length-1) (List.drop 1 l0)) 0 0 ((a.toNat:Int)==45) [])))) (aV ((l0.length:Int)==0) (.ret (.t [vi 0,vb false,vi 2],[])) (aR (SQ l0 0 0 b1 [])))):=aF
theorem ME(l0:aE)(n1:Int):EQ aK (LI l0 n1 []) (aO (decide ((0:Int)<=1/\1<=(l0.length:Int))) (aR (SE (List.take (l0.length-1) (List.drop 1 l0)) n1 0 true false [] []))):=aF
theorem qt(l0:aE)(n1:Int)(b2:Bool)(l3:List D)(b4:Bool)(n5:Int):EQ aK (SE l0 n1 n5 b2 b4 l3 []) (aV (decide ((l0.length:Int)>0)) (ob (bW l0 0) λ a=>aV (decide ((a.toNat:Int) ≥ 48)) (ob (bW l0 0) λ c=>aV (decide ((c.toNat:Int)<=57)) (aR (Wt l0 n1 n5 b2 b4 true l3 [])) (ob (bW l0 0) λ e=>aV ((e.toNat:Int)==46) (aR (RN (vb !b4) l0 n1 n5 b2 b4 l3 [])) (aR (Wt l0 n1 n5 b2 b4 false l3 [])))) (ob (bW l0 0) λ f=>aV ((f.toNat:Int)==46) (aR (RN (vb !b4) l0 n1 n5 b2 b4 l3 [])) (aR (Wt l0 n1 n5 b2 b4 false l3 [])))) (aR (Wt l0 n1 n5 b2 b4 false l3 []))):=aF
theorem Aw(l0:aE)(n1 n2:Int)(b3:Bool):EQ aK (Se l0 n1 n2 b3 []) (aV b3 (dP (l0.length+5) (.ret (vs (l0++[48,46,48,101,48]),[]))) (aV (n1==0) (aR (Lj l0 1 n2 [])) (aR (Lj l0 n1 (u64.wrap ((BitVec.ofInt u64.bits n2 ||| BitVec.ofInt u64.bits 4503599627370496).toNat:Int)) [])))):=aF
theorem pv(b0:Bool)(l1:List D)(b2:Bool)(l3:List D)(m4:Nat)(b5:Bool)(l6:List D)(n7:Int)(l8:List V):EQ aK (.at_ 107 0 (aJ 175) (sq3 (.m 0 0 m4) n7 b0 b2 b5 l1 l3 l6) [] [aC l8]) (aV (decide (n7 ≥ 0)) (cV (.call 109 [vl b5 l6,vl b5 l6] []) λ a=>bG a λ c=>gX c λ e f=>cV (.call 153 [vl b0 l1,vi n7] []) λ g=>bG g λ h=>cf .u64 h λ j=>cV (.call 101 [vu j] []) λ k=>bG k λ n=>gX n λ o p=>cV (.call 109 [vl e f,vl o p] []) λ q=>bG q λ r=>gX r λ s zu=>cV (.call 154 [vl s zu,vl b2 l3] []) λ v=>dI v λ w=>aO (w.length==2) (bG (cG w 0) λ x=>gX x λ y z=>bG (cG w 1) λ a0=>jz a0 λ a1=>aV a1 (aO (decide (0<=i64.wrap (n7.tdiv 32)/\i64.wrap (n7.tdiv 32)<(m4:Int))) (ob l8[0+(i64.wrap (n7.tdiv 32)).toNat]? λ a2=>bG a2 λ a3=>cf .u32 a3 λ a4=>aO (decide (0<=n7.tmod 32)) (aO (decide (0<=i64.wrap (n7.tdiv 32)/\i64.wrap (n7.tdiv 32)<(m4:Int))) (aO (decide (0+(i64.wrap (n7.tdiv 32)).toNat<l8.length)&&true) (aR (SM (.m 0 0 m4) n7 b0 b2 y l1 l3 z [aC (l8.set (0+(i64.wrap (n7.tdiv 32)).toNat) (.d (.i .u32 (u32.wrap ((BitVec.ofInt u32.bits a4 ||| BitVec.ofInt u32.bits (u32.wrap (1*2^min (n7.tmod 32).toNat 32))).toNat:Int)))))])))))) (aR (SM (.m 0 0 m4) n7 b0 b2 s l1 l3 zu [aC l8])))) (c1 (.call 152 [.m 0 0 m4] [aC l8]) l8.length [] λ a5 a6=>bG a5 λ a7=>gX a7 λ a8 a9 => .ret (.t [vl a8 a9,vl b5 l6,vb true],[]))):=aF
theorem xr(l0:aE)(b1:Bool)(n2 n3:Int):EQ aK (SQ l0 n2 n3 b1 []) (aV (decide (n3<(l0.length:Int))) (ob (bW l0 n3) λ a=>aV (decide ((a.toNat:Int)<48)) (aR (R5 l0 n2 n3 b1 true [])) (ob (bW l0 n3) λ c=>aR (R5 l0 n2 n3 b1 (decide ((c.toNat:Int)>57)) []))) (aV b1 (.ret (.t [vi (i64.wrap (0-n2)),vb (decide (n2>400)),vi 0],[])) (.ret (.t [vi n2,vb (decide (n2>400)),vi 0],[])))):=aF
theorem rD(l0:aE)(n1:Int)(b2:Bool)(l3:List D)(b4:Bool)(n5:Int)(b6:Bool):EQ aK (Wt l0 n1 n5 b2 b4 b6 l3 []) (aV b6 (ob (bW l0 0) λ a=>aV ((a.toNat:Int)==46) (aR (Vz l0 n1 n5 b2 true l3 [])) (ob (bW l0 0) λ c=>aO (bA 1 l3) (aO (b2||true) (aO (decide (l3.length+1<=4294967296)) (aV b4 (aR (Vz l0 n1 (i64.wrap (n5+1)) (b2&&false) b4 (l3++[.i .u8 (u8.wrap ((c.toNat:Int)-48))]) [])) (aR (Vz l0 n1 n5 (b2&&false) b4 (l3++[.i .u8 (u8.wrap ((c.toNat:Int)-48))]) []))))))) (aV ((l3.length:Int)==0) (aR (VA l0 n1 n5 b2 true l3 [])) (aV b4 (aR (VA l0 n1 n5 b2 (n5==0) l3 [])) (aR (VA l0 n1 n5 b2 false l3 []))))):=aF
theorem MG(l0:aE)(n1 n2:Int):EQ aK (Lj l0 n1 n2 []) (cV (.call 101 [vu n2] []) λ a=>bG a λ b=>gX b λ c e=>aV (decide (n1 ≥ 1075)) (cV (.call 102 [vl c e,vi (i64.wrap (n1-1075))] []) λ f=>bG f λ g=>gX g λ h j=>aR (Ld l0 h true j [.i .u32 1] [])) (cV (.call 102 [vl true [.i .u32 1],vi (i64.wrap (1075-n1))] []) λ k=>bG k λ m=>gX m λ n o=>aR (Ld l0 c n e o []))):=aF
theorem sF(l0:aE)(b1:Bool)(n2 n3:Int)(b4:Bool):EQ aK (R5 l0 n2 n3 b1 b4 []) (aV b4 (.ret (.t [vi 0,vb false,vi 2],[])) (ob (bW l0 n3) λ a=>aR (SQ l0 (if 100000<i64.wrap (i64.wrap (n2*10)+i64.wrap (u8.wrap ((a.toNat:Int)-48)))then 100000 else i64.wrap (i64.wrap (n2*10)+i64.wrap (u8.wrap ((a.toNat:Int)-48)))) (i64.wrap (n3+1)) b1 []))):=aF
theorem rE(l0:aE)(n1:Int)(b2:Bool)(l3:List D)(b4:Bool)(n5:Int):EQ aK (Vz l0 n1 n5 b2 b4 l3 []) (aO (decide ((0:Int)<=1/\1<=(l0.length:Int))) (aR (SE (List.take (l0.length-1) (List.drop 1 l0)) n1 n5 b2 b4 l3 []))):=aF
theorem MF(l0:aE)(n1:Int)(b2:Bool)(l3:List D)(n4:Int)(b5:Bool):EQ aK (VA l0 n1 n4 b2 b5 l3 []) (aV b5 (.ret (.t [vu 0,vi 2],[])) (cV (.call 188 [vs l0] []) λ o0=>dI o0 λ l1=>aO (l1.length==3) (bG (cG l1 0) λ d2=>cf .i64 d2 λ n3=>bG (cG l1 1) λ d4=>jz d4 λ b5=>bG (cG l1 2) λ d6=>cf .i64 d6 λ n7=>aV (n7 != 0) (.ret (.t [vu 0,vi n7],[])) (aV (decide ((l3.length:Int)>60)) (.ret (.t [vu 0,vi 4],[])) (aV b5 (.ret (.t [vu 0,vi 5],[])) (aR (Wu n1 n4 n3 0 b2 true l3 [] []))))))):=aF
theorem Hs(l0:aE)(b1:Bool)(l2:List D)(b3:Bool)(l4:List D):EQ aK (Ld l0 b1 b3 l2 l4 []) (cV (.call 103 [vl b1 l2] []) λ a=>bG a λ b=>cf .i64 b λ c=>cV (.call 103 [vl b3 l4] []) λ e=>bG e λ f=>cf .i64 f λ g=>aR (KD l0 (i64.wrap (i64.wrap ((i64.wrap (i64.wrap (c-g)*30103)).tdiv 100000)-2)) b1 b3 l2 l4 [])):=aF
theorem pq(n0:Int)(b1:Bool)(l2:List D)(n3 n4:Int)(b5:Bool)(l6:List D)(n7:Int):EQ aK (Wu n0 n3 n4 n7 b1 b5 l2 l6 []) (aV (decide (n7<(l2.length:Int))) (cV (.call 105 [vl b5 l6,vl true [.i .u32 10]] []) λ a=>bG a λ b=>gX b λ c e=>ob (bW l2 n7) λ f=>aO (f.width==1) (ob l2[n7.toNat]? λ g=>ob g.cells[0]? λ h=>cf .u8 h λ j=>cV (.call 101 [vu (u64.wrap j)] []) λ k=>bG k λ m=>gX m λ n o=>cV (.call 109 [vl c e,vl n o] []) λ p=>bG p λ q=>gX q λ r s=>aR (RJ n0 n3 n4 (i64.wrap (n7+1)) b1 r l2 s []))) (aV (decide (i64.wrap (n4-n3) ≥ 0)) (cV (.call 106 [vi (i64.wrap (n4-n3))] []) λ t=>bG t λ zu=>gX zu λ v w=>cV (.call 105 [vl b5 l6,vl v w] []) λ x=>bG x λ y=>gX y λ z a0=>aR (K5 n0 z true a0 [.i .u32 1] [])) (cV (.call 106 [vi (i64.wrap (0-i64.wrap (n4-n3)))] []) λ a1=>bG a1 λ a2=>gX a2 λ a3 a4=>aR (Wx n0 b5 a3 l6 a4 [])))):=aF
theorem vg(l0:aE)(b1:Bool)(l2:List D)(b3:Bool)(l4:List D)(n5:Int):EQ aK (KD l0 n5 b1 b3 l2 l4 []) (cV (.call 104 (Tz (i64.wrap (n5+1)) b1 b3 l2 l4) []) λ a=>bG a λ b=>jz b λ c=>aV c (aR (KD l0 (i64.wrap (n5+1)) b1 b3 l2 l4 [])) (aV (decide (i64.wrap (16-n5) ≥ 0)) (cV (.call 106 [vi (i64.wrap (16-n5))] []) λ e=>bG e λ f=>gX f λ g h=>cV (.call 105 [vl b1 l2,vl g h] []) λ j=>bG j λ k=>gX k λ m n=>aR (KE l0 n5 m b3 n l4 [])) (cV (.call 106 [vi (i64.wrap (0-i64.wrap (16-n5)))] []) λ o=>bG o λ p=>gX p λ q r=>cV (.call 105 [vl b3 l4,vl q r] []) λ t=>bG t λ zu=>gX zu λ v w=>aR (KE l0 n5 b1 v l2 w [])))):=aF
theorem mJ(n0:Int)(b1:Bool)(l2:List D)(n3 n4:Int)(b5:Bool)(l6:List D)(n7:Int):EQ aK (RJ n0 n3 n4 n7 b1 b5 l2 l6 []) (aV (decide (n7<(l2.length:Int))) (cV (.call 105 [vl b5 l6,vl true [.i .u32 10]] []) λ a=>bG a λ b=>gX b λ c e=>ob (bW l2 n7) λ f=>aO (f.width==1) (ob l2[n7.toNat]? λ g=>ob g.cells[0]? λ h=>cf .u8 h λ j=>cV (.call 101 [vu (u64.wrap j)] []) λ k=>bG k λ m=>gX m λ n o=>cV (.call 109 [vl c e,vl n o] []) λ p=>bG p λ q=>gX q λ r s=>aR (RJ n0 n3 n4 (i64.wrap (n7+1)) b1 r l2 s []))) (aV (decide (i64.wrap (n4-n3) ≥ 0)) (cV (.call 106 [vi (i64.wrap (n4-n3))] []) λ t=>bG t λ zu=>gX zu λ v w=>cV (.call 105 [vl b5 l6,vl v w] []) λ x=>bG x λ y=>gX y λ z a0=>aR (K5 n0 z true a0 [.i .u32 1] [])) (cV (.call 106 [vi (i64.wrap (0-i64.wrap (n4-n3)))] []) λ a1=>bG a1 λ a2=>gX a2 λ a3 a4=>aR (K5 n0 b5 a3 l6 a4 [])))):=aF
theorem Ck(n0:Int)(b1:Bool)(l2:List D)(b3:Bool)(l4:List D):EQ aK (K5 n0 b1 b3 l2 l4 []) (cV (.call 189 [vl b1 l2,vl b3 l4] []) λ a=>dI a λ c=>aO (c.length==2) (bG (cG c 0) λ e=>cf .u64 e λ f=>bG (cG c 1) λ g=>jz g λ h=>aV (!h) (.ret (.t [vu 0,vi 5],[])) (.ret (.t [vu (u64.wrap ((BitVec.ofInt u64.bits n0 ||| BitVec.ofInt u64.bits f).toNat:Int)),vi 0],[])))):=aF
theorem xp(n0:Int)(b1:Bool)(l2:List D)(b3:Bool)(l4:List D):EQ aK (Wx n0 b1 b3 l2 l4 []) (cV (.call 189 [vl b1 l2,vl b3 l4] []) λ a=>dI a λ c=>aO (c.length==2) (bG (cG c 0) λ e=>cf .u64 e λ f=>bG (cG c 1) λ g=>jz g λ h=>aV (!h) (.ret (.t [vu 0,vi 5],[])) (.ret (.t [vu (u64.wrap ((BitVec.ofInt u64.bits n0 ||| BitVec.ofInt u64.bits f).toNat:Int)),vi 0],[])))):=aF
theorem Eb(l0:aE)(b1:Bool)(l2:List D)(b3:Bool)(l4:List D)(n5:Int):EQ aK (KE l0 n5 b1 b3 l2 l4 []) (cV (.call 107 [vl b1 l2,vl b3 l4] []) λ a=>dI a λ c=>aO (c.length==3) (bG (cG c 0) λ e=>gX e λ f g=>bG (cG c 1) λ h=>gX h λ j k=>bG (cG c 2) λ m=>jz m λ n=>cV (.call 109 [vl j k,vl j k] []) λ o=>bG o λ p=>gX p λ q r=>cV (.call 108 [vl q r,vl b3 l4] []) λ t=>bG t λ zu=>cf .i64 zu λ v=>aV (decide (v>0)) (aR (SL l0 n5 f true g [])) (aV (v==0) (cV (.call 110 [vl f g] []) λ w=>bG w λ x=>cf .u64 x λ y=>aR (SL l0 n5 f (y.tmod 2==1) g [])) (aR (SL l0 n5 f false g []))))):=aF
theorem Cl(l0:aE)(n1:Int)(b2:Bool)(l3:List D)(b4:Bool):EQ aK (SL l0 n1 b2 b4 l3 []) (aV b4 (cV (.call 101 [vu 1] []) λ a=>bG a λ c=>gX c λ e f=>cV (.call 109 [vl b2 l3,vl e f] []) λ g=>bG g λ h=>gX h λ j k=>cV (.call 110 [vl j k] []) λ m=>bG m λ n=>cf .u64 n λ o=>aV (o==100000000000000000) (aR (Gk l0 (i64.wrap (n1+1)) (u64.wrap (o.tdiv 10)) [])) (aR (Gk l0 n1 o []))) (cV (.call 110 [vl b2 l3] []) λ p=>bG p λ q=>cf .u64 q λ r=>aV (r==100000000000000000) (aR (Gk l0 (i64.wrap (n1+1)) (u64.wrap (r.tdiv 10)) [])) (aR (Gk l0 n1 r [])))):=aF
theorem zz(l0:aE)(n1 n2:Int):EQ aK (Gk l0 n1 n2 []) (cV (.call 100 [vu n2] []) λ a=>bG a λ b=>fJ b λ c=>aO (decide ((0:Int)<=1/\1<=(c.length:Int))) (aR (VP l0 c (List.take (c.length-1) (List.drop 1 c)) n1 []))):=aF
theorem ps(l0:aE)(n1:Int)(l2 l3:aE):EQ aK (VP l0 l2 l3 n1 []) (aV (decide ((l3.length:Int)>1)) (ob (bW l3 (i64.wrap ((l3.length:Int)-1))) λ a=>aR (RX l0 l2 l3 n1 ((a.toNat:Int)==48) [])) (aR (RX l0 l2 l3 n1 false []))):=aF
theorem oG(l0:aE)(n1:Int)(l2 l3:aE)(b4:Bool):EQ aK (RX l0 l2 l3 n1 b4 []) (aV b4 (aO (decide (0<=i64.wrap ((l3.length:Int)-1)/\i64.wrap ((l3.length:Int)-1)<=(l3.length:Int))) (aR (VP l0 l2 (List.take ((i64.wrap ((l3.length:Int)-1)).toNat-0) (List.drop 0 l3)) n1 []))) (aO (decide ((0:Int)<=1/\1<=(l2.length:Int))) (dP (l0.length+(List.take 1 (List.drop 0 l2)).length) (dP ((l0++List.take 1 (List.drop 0 l2)).length+1) (dP ((l0++List.take 1 (List.drop 0 l2)++[46]).length+l3.length) (dP ((l0++List.take 1 (List.drop 0 l2)++[46]++l3).length+1) (cV (.call 47 [vi n1] []) λ a=>bG a λ c=>fJ c λ e=>dP ((l0++List.take 1 (List.drop 0 l2)++[46]++l3++[101]).length+e.length) (.ret (vs (l0++List.take 1 (List.drop 0 l2)++[46]++l3++[101]++e),[]))))))))):=aF
theorem mY(k:IntKind)(n:Int):(D.i k n).cells[0]?=some (D.i k n):=rfl
theorem nE(k:IntKind)(n:Int):((D.i k n).width==1)=true:=rfl
theorem A6(b:Bool)(a:List Int)(ha:ep a)(hb:a.length<=1000000):∀n:Nat,n<=a.length->aW (a.take n)=aW a->
  rk prog aK (LM (n:Int) b (ints .u32 a) [])=some (.d (nl (aW a)),[])
 |0,hn,hv=>by
  have h0:aW a=0:=by rw[<-hv];rfl
  have e:nl (aW a) = .l true []:=by rw[h0];exact oK bZ
  rw[Eu,bB (by decide),aA,AA,bH,aN (by simp),fw,aQ];have e2:List.take (((0:Nat):Int).toNat-0) (List.drop 0 (ints .u32 a))=[]:=rfl;rw[e2,HH,aQ,aN (by decide),aG,e];rfl
 |n+1,hn,hv=>by
  have hx:n<a.length:=by omega
  have gx:=abl hx;have hw:i64.wrap (((n+1:Nat):Int)-1)=(n:Int):=bD;have hg:(ints .u32 a)[n]?=some (D.i .u32 a[n]):=by rw[eW,gx];rfl
  rw[Eu,bC,hw,ct,abe,bz hg,nE,aQ,bz hg,bz (mY _ _),cT,aA,AA];by_cases h0:a[n]=0
  ·have ih:=A6 b a ha hb n (by omega) (by rw[<-hv];exact(gg a n (by rw[gx,h0])).symm)
   rw[h0,eH (by rfl),hw,aA,ih]
  ·have e:nl (aW a) = .l (a.take (n+1)).isEmpty (ints .u32 (a.take (n+1))):=by rw[<-hv];exact oK (jc ha hx h0)
   have e2:List.take ((((n+1:Nat):Int)).toNat-0) (List.drop 0 (ints .u32 a))=ints .u32 (a.take (n+1)):=by rw[List.drop_zero,nz];rfl
   rw[cX (abr.2 h0),aN (by rw[cL];omega),fw,aQ,e2,fw,aQ,aN (by rw[cL,List.length_take];omega),aG,e,iE,List.nil_append]
theorem pN(b:Bool)(a:List Int)(ha:ep a)(hb:a.length<=1000000):rk prog aK (.call 152 [vl b (ints .u32 a)] [])=some (.d (nl (aW a)),[]):=by rw[f58,aA,cL];exact A6 b a ha hb a.length (aa4 _) (by rw[List.take_length])
theorem x6(a:List Int)(ha:ep a)(hb:a.length<=1000000):∀n:Nat,n<=a.length->aW (a.take n)=aW a->
  rk prog aK (LX (V.m 0 0 a.length) (n:Int) [aC (cellsOf a)])=some (.d (nl (aW a)),[aC (cellsOf a)])
 |0,hn,hv=>by
  have h0:aW a=0:=by rw[<-hv];rfl
  have e:nl (aW a) = .l true []:=by rw[h0];exact oK bZ
  have hv0:dK [aC (cellsOf a)] 1 (V.m 0 0 (((0:Nat):Int).toNat-0))=some (ints .u32 (a.take 0)):=kj a 0 (by omega);rw[xx,bB (by decide),aA,vk,bH,aN (by simp),bz hv0,fw,aQ,aN (by simp),aG,e];rfl
 |n+1,hn,hv=>by
  have hx:n<a.length:=by omega
  have gx:=abl hx;have hw:i64.wrap (((n+1:Nat):Int)-1)=(n:Int):=bD;have hg:(cellsOf a)[0+n]?=some (V.d (D.i .u32 a[n])):=by rw[abv,dw,gx];rfl
  have hni:(0:Int)<=(n:Int)/\(n:Int)<(a.length:Int):=by omega
  rw[xx,bC,hw,aN hni,abe,bz hg,dN,cT,aA,vk];by_cases h0:a[n]=0
  ·have ih:=x6 a ha hb n (by omega) (by rw[<-hv];exact(gg a n (by rw[gx,h0])).symm)
   rw[h0,eH (by rfl),hw,aA,ih]
  ·have e:nl (aW a) = .l (a.take (n+1)).isEmpty (ints .u32 (a.take (n+1))):=by rw[<-hv];exact oK (jc ha hx h0)
   have hv1:dK [aC (cellsOf a)] 1 (V.m 0 0 ((((n+1:Nat):Int)).toNat-0))=some (ints .u32 (a.take (n+1))):=kj a (n+1) (by omega);rw[cX (abr.2 h0),aN,bz hv1,fw,aQ,aN (by rw[cL,List.length_take];omega),aG,e,iE,List.nil_append]
theorem uD(a:List Int)(ha:ep a)(hb:a.length<=1000000):rk prog aK (.call 152 [V.m 0 0 a.length] [aC (cellsOf a)])=some (.d (nl (aW a)),[aC (cellsOf a)]):=by rw[aar,aA];exact x6 a ha hb a.length (aa4 _) (by rw[List.take_length])
theorem FP(b:Bool)(x:Nat)(hx:Fits x):rk prog aK (.call 152 [vl b (ws x)] [])=some (.d (.l (nb x) (ws x)),[]):=by have:=pN b (aT x) (cW x) (by have:=hx.len;omega);rw[cM]at this;exact this
theorem yn(n:Nat)(h:n<18446744073709551616):rk prog aK (.call 101 [vu (n:Int)] [])=some (.d (.l (nb n) (ws n)),[]):=by
 rw[f30];have e:[D.i u32 (u32.wrap n),D.i u32 (u32.wrap ((n:Int).fdiv 4294967296))]=ints .u32 [((n%W:Nat):Int),((n / W:Nat):Int)]:=by rw[dt,dt,nY,sR,oi (by unfold W;omega)];rfl
 have hv:aW [((n%W:Nat):Int),((n / W:Nat):Int)]=n:=by simp only[aW,abe];have:=Nat.mod_add_div n W;omega
 have hu:ep [((n%W:Nat):Int),((n / W:Nat):Int)]:=by
  intro z hz;have h1:=abz n iJ;have h2:n / W<4294967296:=by unfold W;omega
  unfold W at *;simp at hz;rcases hz with rfl|rfl<;>omega
 have hc:=pN true _ hu (by simp);rw[hv,nj]at hc;rw[e,eR hc,aG]
def dg(x i:Nat):Nat:=x / W^i%W
theorem qT(x i:Nat):dg x i<4294967296:=abz _ iJ
theorem iC{x i:Nat}(h:(aT x).length<=i):x / W^i=0:=by refine Nat.div_eq_of_lt (abL (gP x) (abM iJ h))
theorem Tj{x i:Nat}(h:i<(aT x).length):(ws x)[i]?=some (D.i .u32 ((dg x i:Nat):Int)):=by rw[ws,eW,AW x i h];rfl
theorem lM(b:Bool)(x i:Nat):rk prog aK (.call 155 [vl b (ws x),vi (i:Int)] [])=some (.d (.i .u64 ((dg x i:Nat):Int)),[]):=by
 rw[f57,ed];by_cases h:i<(aT x).length
 ·have hl:=qT x i;have hw:u64.wrap ((dg x i:Nat):Int)=((dg x i:Nat):Int):=by rw[aY];omega
  rw[bC,ct,bz (Tj h),nE,aQ,abe,bz (Tj h),bz (mY _ _),cT,aG,hw]
 ·rw[bB,aG];have:dg x i=0:=by unfold dg;rw[iC (by omega)];exact Nat.zero_mod _
  rw[this];rfl
theorem wz(b:Bool)(x i:Nat)(hi:i<1000000000):rk prog aK (.call 153 [vl b (ws x),vi (i:Int)] [])=some (.d (.i .u64 ((x / 2^i%2:Nat):Int)),[]):=by
 rw[f59];have e1:(i:Int).tdiv 32=((i / 32:Nat):Int):=fV i 32;have e2:(i:Int).tmod 32=((i%32:Nat):Int):=kM i 32;have hw:i64.wrap ((i / 32:Nat):Int)=((i / 32:Nat):Int):=bD;have hm:min (((i%32:Nat):Int)).toNat 64=i%32:=by rw[abe];omega
 have hd:=qT x (i / 32);have hf:((dg x (i / 32):Nat):Int).fdiv (2^(i%32))=((dg x (i / 32) / 2^(i%32):Nat):Int):=by
  have:=nc (dg x (i / 32)) (2^(i%32))
  rwa[Int.natCast_pow]at this
 have hle:dg x (i / 32) / 2^(i%32)<18446744073709551616:=Nat.lt_of_le_of_lt (Nat.div_le_self _ _) (by omega);have ha:(BitVec.ofInt u64.bits ((dg x (i / 32) / 2^(i%32):Nat):Int) &&& BitVec.ofInt u64.bits 1).toNat=x / 2^i%2:=by
  show (BitVec.ofInt 64 ((dg x (i / 32) / 2^(i%32):Nat):Int) &&& BitVec.ofInt 64 1).toNat=_;rw[BitVec.toNat_and,BitVec.ofInt_natCast,BitVec.toNat_ofNat];have:(BitVec.ofInt 64 1).toNat=1:=by decide
  rw[this,Nat.and_one_is_mod,<-DB x i];unfold dg;unfold dg at hle;rw[abF (show _<2^64 from hle)]
 have hw2:u64.wrap ((x / 2^i%2:Nat):Int)=((x / 2^i%2:Nat):Int):=by rw[aY];omega
 rw[e1,hw,gF (lM b x (i / 32)),e2,hm,hf,ha,hw2,aN,aG]
theorem yj(b:Bool)(x:Nat):∀n:Nat,n<1000000000->x<2^n->
  rk prog aK (LN (n:Int) b (ws x) [])=some (.d (.i .i64 (bJ x:Nat)),[])
 |0,hn,hx=>by
  have:x=0:=by simpa using hx
  subst this;rw[Em,bB (by decide),aA,Ax,bH,aG];rfl
 |n+1,hn,hx=>by
  have hw:i64.wrap (((n+1:Nat):Int)-1)=(n:Int):=bD;rw[Em,bC,hw,gF (wz b x n (by omega)),aA,Ax];have hd:x / 2^n<2:=Nat.div_lt_of_lt_mul (by rw[abD,abD,<-abx];exact hx);by_cases h:x<2^n
  ·have e:x / 2^n%2=0:=by rw[Nat.div_eq_of_lt h]
   rw[e,eH (by rfl),hw,aA];exact yj b x n (by omega) h
  ·have e:x / 2^n%2=1:=by have:0<x / 2^n:=Nat.div_pos (by omega) (abt (by decide));omega
   rw[e,cX (by rfl),aG,B5 (by omega) hx]
theorem pV(b:Bool)(x:Nat)(hx:Fits x):rk prog aK (.call 103 [vl b (ws x)] [])=some (.d (.i .i64 (bJ x:Nat)),[]):=by have hl:=hx.len;have hw:i64.wrap (32*((aT x).length:Int))=((32*(aT x).length:Nat):Int):=bD;rw[f41,eR (FP b x hx),ed,hw,aA];exact yj (nb x) x (32*(aT x).length) (by omega) (by rw[<-nK];exact gP x)
theorem sB(x i:Nat):x / W^i=W*(x / W^(i+1))+dg x i:=by unfold dg;rw[abx,<-Nat.div_div_eq_div_mul];exact(Nat.div_add_mod _ _).symm
theorem Bo(b c:Bool)(x y:Nat):∀n:Nat,n<1000000000->x / W^n=y / W^n->
  rk prog aK (Lo ((n:Int)-1) b c (ws x) (ws y) [])=some (.d (.i .i64 (gB x y)),[])
 |0,hn,h=>by
  have:x=y:=by simpa using h
  subst this;rw[En,bB (by decide),aG];simp[gB]
 |n+1,hn,h=>by
  have e0:((n+1:Nat):Int)-1=(n:Int):=by omega
  have hw:i64.wrap ((n:Int)-1)=(n:Int)-1:=bD;have sx:=sB x n;rw[h]at sx;have sy:=sB y n;have hlt:∀p q:Nat,p / W^n<q / W^n->p<q:=λ p q h=>by
   rcases abn p q with h1|h1
   ·exact h1
   ·exact absurd (Nat.div_le_div_right (c:=W^n) h1) (by omega)
  rw[e0,En,bC,gF (lM b x n),gF (lM c y n)];by_cases h1:dg x n<dg y n
  ·have:=hlt x y (by omega)
   rw[bC,aG,gB,aaR this]
  ·rw[bB,gF (lM b x n),gF (lM c y n)];by_cases h2:dg y n<dg x n
   ·have:=hlt y x (by omega)
    rw[bC,aG,gB,cE,aaR this]
   ·rw[bB,hw,aA];exact Bo b c x y n (by omega) (by omega)
theorem tn(b c:Bool)(x y:Nat)(hx:Fits x)(hy:Fits y):rk prog aK (.call 108 [vl b (ws x),vl c (ws y)] [])=some (.d (.i .i64 (gB x y)),[]):=by
 have lx:=hx.len;have ly:=hy.len;have e:i64.wrap ((if ((ws y).length:Int)>((ws x).length:Int) then((ws y).length:Int) else((ws x).length:Int))-1)=((max (aT x).length (aT y).length:Nat):Int)-1:=by
  rw[ed,ed,wrap_i64]
  ·split<;>omega
  ·split<;>omega
  ·split<;>omega
 rw[f44,e,aA];exact Bo b c x y _ (by omega) (by rw[iC (by omega),iC (by omega)])
theorem tv(b:Bool)(x:Nat):rk prog aK (.call 110 [vl b (ws x)] [])=some (.d (.i .u64 ((x%18446744073709551616:Nat):Int)),[]):=by
 have h0:rk prog aK (.call 155 [vl b (ws x),vi 0] [])=_:=lM b x 0;have h1:rk prog aK (.call 155 [vl b (ws x),vi 1] [])=_:=lM b x 1;have d0:=qT x 0;have d1:=qT x 1;have e0:dg x 0=x%4294967296:=by unfold dg;rw[Nat.pow_zero,Nat.div_one];rfl
 have e1:dg x 1=x / 4294967296%4294967296:=by unfold dg;rw[Nat.pow_one];rfl
 have hw:u64.wrap (((dg x 1:Nat):Int)*4294967296)=((dg x 1*2^32:Nat):Int):=by rw[aY];omega
 have hor:(BitVec.ofInt u64.bits ((dg x 0:Nat):Int) ||| BitVec.ofInt u64.bits ((dg x 1*2^32:Nat):Int)).toNat=x%18446744073709551616:=by have:=mK (a:=dg x 0) (b:=dg x 1*2^32) (by omega) (by omega);rw[pU (by omega)]at this;refine Eq.trans this ?_;omega
 have hw2:u64.wrap ((x%18446744073709551616:Nat):Int)=((x%18446744073709551616:Nat):Int):=by rw[aY];omega
 rw[f45,gF h0,gF h1,hw,hor,hw2,aG]
def Zo(b1 b2:Bool)(x y:Nat)(b4:Bool)(out:List Int)(c i:Nat):Task:=
 VD (c:Int) (i:Int) b1 b2 b4 (ws x) (ws y) (ints .u32 out) []
theorem Bn(b1 b2:Bool)(x y:Nat)(b4:Bool)(out:List Int)(c i:Nat)(hi:i<=1000000)(hl:out.length=i)(hc:c<4294967296):
  rk prog aK (.at_ 109 0 (aJ 791)
   (sv 42 [(0,vl b1 (ws x)),(1,vl b2 (ws y)),(5,vl b4 (ints .u32 out)),(6,vu (c:Int)),(7,vi (i:Int)),(21,vb true)]) [(5,1)] [])=
  rk prog aK (Zo b1 b2 x y false (out++[(((c+dg x i+dg y i)%W:Nat):Int)]) ((c+dg x i+dg y i) / W) (i+1)):=by
 have d1:=qT x i;have d2:=qT y i;have w1:u64.wrap ((c:Int)+((dg x i:Nat):Int))=((c+dg x i:Nat):Int):=by rw[aY];omega
 have w2:u64.wrap (((c+dg x i:Nat):Int)+((dg y i:Nat):Int))=((c+dg x i+dg y i:Nat):Int):=by rw[aY];omega
 have w3:u32.wrap ((c+dg x i+dg y i:Nat):Int)=(((c+dg x i+dg y i)%W:Nat):Int):=by rw[dt,sR]
 have w4:=ca i;rw[um,bQ,gF (lM b1 x i),gF (lM b2 y i),fw,aQ,Bool.or_true,aQ,aN (by rw[cL];omega),Bool.and_false,w1,w2,w3,w4,nY,jq,aA];rfl
theorem Nx(b1 b2:Bool)(x y:Nat)(L:Nat)(hLx:(aT x).length<=L)(hLy:(aT y).length<=L)(hL:L<=100000):∀(d i:Nat) (b4:Bool) (out:List Int) (c:Nat),i+d=L+1->ep out->out.length=i->c<2->aW out+W^i*(c+x / W^i+y / W^i)=x+y->(d=0->c=0)->
  rk prog aK (Zo b1 b2 x y b4 out c i)=some (.d (.l (nb (x+y)) (ws (x+y))),[]):=by
 intro d
 induction d with
 |zero=>
  intro i b4 out c hi hu hl hc hv h0;have zx:x / W^i=0:=iC (by omega);have zy:y / W^i=0:=iC (by omega);rw[zx,zy,h0 rfl]at hv;have hn:=pN b4 out hu (by omega);rw[show aW out=x+y by simpa using hv,nj]at hn;unfold Zo;rw[Eh,ed,ed,bB,bB,aA,um,h0 rfl,cX (by rfl),eR hn,aG]
 |succ d ih=>
  intro i b4 out c hi hu hl hc hv h0;have d1:=qT x i;have d2:=qT y i;have sx:=sB x i;have sy:=sB y i;have step:rk prog aK (Zo b1 b2 x y false (out++[(((c+dg x i+dg y i)%W:Nat):Int)]) ((c+dg x i+dg y i) / W) (i+1))=some (.d (.l (nb (x+y)) (ws (x+y))),[]):=by
   have hq:(c+dg x i+dg y i) / W<2:=Nat.div_lt_of_lt_mul (by unfold W;omega);refine ih (i+1) false _ _ (by omega) (hu.snoc (abz _ iJ)) (by simp[hl]) hq ?_ ?_
   ·rw[eF,hl,<-hv,sx,sy];have e:=Nat.mod_add_div (c+dg x i+dg y i) W;simp only[aW,abe,Nat.mul_zero,Nat.add_zero];rw[abx,abm,aby,<-abA];congr 2;rw[abA,abA];omega
   ·intro hd;have zx:dg x i=0:=by unfold dg;rw[iC (by omega)];exact Nat.zero_mod _
    have zy:dg y i=0:=by unfold dg;rw[iC (by omega)];exact Nat.zero_mod _
    rw[zx,zy];exact Nat.div_eq_of_lt (by unfold W;omega)
  rw[<-step,<-Bn b1 b2 x y b4 out c i (by omega) hl (by omega)];unfold Zo;rw[Eh,ed,ed];by_cases h1:i<(aT x).length
  ·rw[bC,aA]
  ·rw[bB];by_cases h2:i<(aT y).length
   ·rw[bC,aA]
   ·rw[bB,aA];by_cases h3:0<c
    ·rw[show decide ((c:Int)>0)=true from aa3 (by omega)]
    ·-- nothing is left
     have hc0:c=0:=by omega
     have zx:x / W^i=0:=iC (by omega);have zy:y / W^i=0:=iC (by omega);rw[zx,zy,hc0]at hv;have hn:=pN b4 out hu (by omega);rw[show aW out=x+y by simpa using hv,nj]at hn;rw[show decide ((c:Int)>0)=false from abf (by omega),um,bH,eR hn,aG,Bn b1 b2 x y b4 out c i (by omega) hl (by omega),step]
theorem ox(b c:Bool)(x y:Nat)(hx:Fits x)(hy:Fits y):rk prog aK (.call 109 [vl b (ws x),vl c (ws y)] [])=some (.d (.l (nb (x+y)) (ws (x+y))),[]):=by have lx:=hx.len;have ly:=hy.len;rw[f28,aA];exact Nx b c x y (max (aT x).length (aT y).length) (by omega) (by omega) (by omega) _ 0 true [] 0 (by rw[abv]) ep.nil rfl (by decide) (by simp[aW]) (by omega)
def rsT(b1 b2:Bool)(x y:Nat)(b4:Bool)(out:List Int)(c i:Nat):Task:=
 VC (c:Int) (i:Int) b1 b2 b4 (ws x) (ws y) (ints .u32 out) []
theorem mod_pow_succ(x i:Nat):x%W^(i+1)=x%W^i+W^i*dg x i:=by unfold dg;rw[abx,Nat.mod_mul]
theorem NJ(b1 b2:Bool)(x y:Nat)(hyx:y<=x)(hL:(aT x).length<=100000):∀(d i:Nat) (b4:Bool) (out:List Int) (c:Nat),i+d=(aT x).length->ep out->out.length=i->c<2->aW out+y%W^i=x%W^i+W^i*c->
  rk prog aK (rsT b1 b2 x y b4 out c i)=some (.t [.d (.l (nb (x-y)) (ws (x-y))),.d (.b true)],[]):=by
 intro d
 induction d with
 |zero=>
  intro i b4 out c hi hu hl hc hv;have hxl:=gP x;have hil:i=(aT x).length:=by omega
  subst hil;rw[abF hxl,abF (Nat.lt_of_le_of_lt hyx hxl)]at hv;have hvl:=qe hu;rw[hl]at hvl;have hc0:c=0:=by
   rcases Nat.eq_zero_or_pos c with h|h
   ·exact h
   ·have:c=1:=by omega
    rw[this]at hv;omega
  rw[hc0]at hv;have hn:=pN b4 out hu (by omega);rw[show aW out=x-y by omega,nj]at hn;unfold rsT;rw[AB,ed,bB,eR hn,aG]
 |succ d ih=>
  intro i b4 out c hi hu hl hc hv;have d1:=qT x i;have d2:=qT y i;obtain⟨D,hD⟩:∃D,D=dg x i+4294967296-dg y i-c:=⟨_,rfl⟩
  have w1:u64.wrap (((dg x i:Nat):Int)+4294967296)=((dg x i+4294967296:Nat):Int):=by rw[aY];omega
  have w2:u64.wrap (((dg x i+4294967296:Nat):Int)-((dg y i:Nat):Int))=((dg x i+4294967296-dg y i:Nat):Int):=by rw[aY];omega
  have w3:u64.wrap (((dg x i+4294967296-dg y i:Nat):Int)-(c:Int))=(D:Int):=by rw[aY];omega
  obtain⟨R,Q,hR,hQ,e⟩:∃R Q,D%W=R/\D / W=Q/\R+4294967296*Q=D:=⟨_,_,rfl,rfl,Nat.mod_add_div D W⟩
  have hR32:R<4294967296:=hR▸abz _ iJ;have w4:u32.wrap (D:Int)=(R:Int):=by rw[dt,sR,hR]
  have hq:Q<=1:=by omega
  have w5:u64.wrap (1-(D:Int).fdiv 4294967296)=((1-Q:Nat):Int):=by rw[nY,hQ,aY];omega
  have w6:=ca i;have ih':=ih (i+1) false (out++[(R:Int)]) (1-Q) (by omega) (hu.snoc hR32) (by simp[hl]) (by omega) (by
   rw[eF,hl,mod_pow_succ,mod_pow_succ];simp only[aW,abe,Nat.mul_zero,Nat.add_zero];have k:R+dg y i+c=dg x i+W*(1-Q):=by
    rcases abn Q 1 with h|h
    ·have:Q=0:=by omega
     rw[this]at e⊢;unfold W;omega
    ·have:Q=1:=by omega
     rw[this]at e⊢;unfold W;omega
   have k2:W^i*R+W^i*dg y i+W^i*c=W^i*dg x i+W^(i+1)*(1-Q):=by rw[<-abA,<-abA,k,abA,abx,abm]
   omega)
  unfold rsT at ih' ⊢;rw[AB,ed,bC,gF (lM b1 x i),gF (lM b2 y i),fw,aQ,Bool.or_true,aQ,aN (by rw[cL];omega),Bool.and_false,w1,w2,w3,w4,w5,w6,jq,aA];exact ih'
theorem UY(b c:Bool)(x y:Nat)(hx:Fits x)(hy:Fits y):rk prog aK (.call 154 [vl b (ws x),vl c (ws y)] [])=some (if x<y then .t [.d (.l true []),.d (.b false)]else .t [.d (.l (nb (x-y)) (ws (x-y))),.d (.b true)],[]):=by
 have lx:=hx.len;rw[f69,gF (tn b c x y hx hy)];by_cases h:x<y
 ·rw[aaR h,bC (by unfold gB;rw[aaR h];decide),aG]
 ·rw[aaN h,bB (by unfold gB;rw[aaN h];split<;>decide),aA]
  exact NJ b c x y (by omega) (by omega) _ 0 true [] 0 (by rw[abv]) ep.nil rfl (by decide) (by simp[aW,Nat.mod_one])
def Yw(bx by_:Bool)(x y:List Int)(n i c k:Nat)(out:List Int):Task:=
 Task.at_ 105 0 (aJ 10827)
  (sv 68 [(0,vl bx (ints .u32 x)),(1,vl by_ (ints .u32 y)),(5,V.m 0 0 n),(6,vi (i:Int)),(7,vu (c:Int)),(8,vi (k:Int))]) [] [aC (cellsOf out)]
def Wl(bx by_:Bool)(x y:List Int)(n i:Nat)(out:List Int):Task:=
 K9 (V.m 0 0 n) (i:Int) bx by_ (ints .u32 x) (ints .u32 y) [aC (cellsOf out)]
theorem Ir(bx by_:Bool)(xs y:List Int)(hxs:ep xs)(hy:ep y)(i n x:Nat)(hi:i<xs.length)(ex:xs[i]=(x:Int))(hx:x<4294967296)(hn:i+y.length<n)(hyl:n<=1000000):
  ∀(d k:Nat) (c:Nat) (out:List Int),k+d=y.length->ep out->out.length=n->c<4294967296->(∀j,i+y.length<=j->j<out.length->out[j]?=some 0)->
  ∃(c':Nat) (out':List Int),ep out'/\out'.length=n/\c'<4294967296/\(∀j,i+y.length<=j->j<out'.length->out'[j]?=some 0)/\
   aW out'+W^(i+y.length)*c'=aW out+W^(i+k)*(c+x*aW (y.drop k))/\
   rk prog aK (Yw bx by_ xs y n i c k out)=rk prog aK (Yw bx by_ xs y n i c' y.length out'):=by
 intro d
 induction d with
 |zero=>
  intro k c out hk hu hl hc hz;have hky:k=y.length:=by omega
  subst hky;refine⟨c,out,hu,hl,hc,hz,?_,rfl⟩;rw[List.drop_length];simp[aW]
 |succ d ih=>
  intro k c out hk hu hl hc hz;have hky:k<y.length:=by omega
  have gy:=abl hky;have gx:=abl hi;obtain⟨w,ew,hw32⟩:=hy.get hky;have hj:i+k<out.length:=by omega
  have gj:=abl hj;obtain⟨o,eo,ho32⟩:=hu.get hj;have hm:=XI hx hw32;have hT:c+o+x*w<18446744073709551616:=by omega
  have hmod:(c+o+x*w)%W<4294967296:=abz _ iJ;have hdiv:(c+o+x*w) / W<4294967296:=by unfold W;omega
  obtain⟨c',out',u1,u2,u3,u4,u5,u6⟩:=ih (k+1) ((c+o+x*w) / W) (out.set (i+k) (((c+o+x*w)%W:Nat):Int)) (by omega) (hu.set _ hmod) (by simpa using hl) hdiv (BT hz (by omega) _);refine⟨c',out',u1,u2,u3,u4,?_,?_⟩
  ·rw[u5];have hs:=mA out (i+k) (((c+o+x*w)%W:Nat):Int) hj;rw[eo]at hs;simp only[abe]at hs;have hd:=Nat.mod_add_div (c+o+x*w) W;rw[lD hky,ew];simp only[abe];have e1:W^(i+(k+1))*((c+o+x*w) / W+x*aW (y.drop (k+1)))=W^(i+k)*(W*((c+o+x*w) / W))+W^(i+k)*(W*(x*aW (y.drop (k+1)))):=by rw[show i+(k+1)=(i+k)+1 from rfl,abx,abm,abA,abA]
   have e2:W^(i+k)*(c+x*(w+W*aW (y.drop (k+1))))=W^(i+k)*(c+x*w)+W^(i+k)*(W*(x*aW (y.drop (k+1)))):=by rw[<-abA];congr 1;rw[abA,<-aby];congr 1;rw[Nat.mul_left_comm]
   rw[e1,e2];have e3:W^(i+k)*((c+o+x*w)%W)+W^(i+k)*(W*((c+o+x*w) / W))=W^(i+k)*(c+x*w)+W^(i+k)*o:=by rw[<-abA,hd,<-abA];congr 1;omega
   omega
  ·rw[<-u6];unfold Yw;have hw1:i64.wrap ((i:Int)+(k:Int))=((i+k:Nat):Int):=bD;have hw2:=ca k;have ho:u64.wrap (o:Int)=(o:Int):=by rw[aY];omega
   have hxw:u64.wrap (x:Int)=(x:Int):=by rw[aY];omega
   have hww:u64.wrap (w:Int)=(w:Int):=by rw[aY];omega
   have hp:u64.wrap ((x:Int)*(w:Int))=((x*w:Nat):Int):=by rw[<-Int.natCast_mul,aY,eD (by omega)]
   have hco:u64.wrap ((c:Int)+(o:Int))=((c+o:Nat):Int):=by rw[aY];omega
   have hw3:u64.wrap (((c+o:Nat):Int)+((x*w:Nat):Int))=((c+o+x*w:Nat):Int):=by rw[<-Int.natCast_add,aY,eD hT]
   have hw4:u32.wrap ((c+o+x*w:Nat):Int)=(((c+o+x*w)%W:Nat):Int):=by rw[dt,sR]
   have hw5:((c+o+x*w:Nat):Int).fdiv 4294967296=(((c+o+x*w) / W:Nat):Int):=nY _;generalize (c+o+x*w:Nat)=T at hw3 hw4 hw5⊢;have hb1:(0:Int)<=((i+k:Nat):Int)/\((i+k:Nat):Int)<(n:Int):=by omega
   have hb2:0+(i+k)<(cellsOf out).length:=by rw[fk];omega
   have ho1:(cellsOf out)[0+(i+k)]?=some (V.d (D.i .u32 (o:Int))):=by rw[abv,dw,gj,eo];rfl
   have hx1:(ints .u32 xs)[i]?=some (D.i .u32 (x:Int)):=by rw[eW,gx,ex];rfl
   have hy1:(ints .u32 y)[k]?=some (D.i .u32 (w:Int)):=by rw[eW,gy,ew];rfl
   rw[vj,cL,bC,hw1,aN hb1,abe,abe,abe,bz ho1,dN,cT,ct,bz hx1,nE,aQ,bz hx1,bz (mY _ _),cT,ct,bz hy1,nE,aQ,bz hy1,bz (mY _ _),cT,
    aN hb1,Bool.and_true,aN hb2,ho,hxw,hww,hp,hco,hw3,hw4,hw5,hw2,abv,iB,aA]
theorem Q0(bx by_:Bool)(x y:List Int)(hx:ep x)(hy:ep y)(n:Nat)(hn:n=x.length+y.length+1)(hb:n<=1000000)(i:Nat)(hi:i<x.length)(out:List Int)(hu:ep out)(hl:out.length=n)(hz:∀j,i+y.length<=j->j<out.length->out[j]?=some 0):
  ∃out',ep out'/\out'.length=n/\(∀j,(i+1)+y.length<=j->j<out'.length->out'[j]?=some 0)/\aW out'=aW out+W^i*(x[i].toNat*aW y)/\
   rk prog aK (Wl bx by_ x y n i out)=rk prog aK (Wl bx by_ x y n (i+1) out'):=by
 obtain⟨a,ea,ha32⟩:=hx.get hi;obtain⟨c',o',u1,u2,u3,u4,u5,u6⟩:=Ir bx by_ x y hx hy i n a hi ea ha32 (by omega) hb y.length 0 0 out (by omega) hu hl (by decide) hz;have hj:i+y.length<o'.length:=by omega
 refine⟨o'.set (i+y.length) (c':Int),u1.set _ u3,by simpa using u2,λ j h1 h2=>?_,?_,?_⟩
 ·rw[List.getElem?_set_ne (by omega)]
  exact u4 j (by omega) (by simpa using h2)
 ·have hs:=mA o' (i+y.length) (c':Int) hj;have h0:o'[i+y.length]=0:=by have:=u4 (i+y.length) (aa4 _) hj;rw[abl hj]at this;exact Option.some.inj this
  rw[h0]at hs;simp only[abe,Int.toNat_zero,Nat.mul_zero,Nat.add_zero]at hs;rw[hs,u5,List.drop_zero,Nat.add_zero,abv,ea,abe]
 ·have e1:rk prog aK (Wl bx by_ x y n i out)=rk prog aK (Yw bx by_ x y n i 0 0 out):=by unfold Wl Yw;rw[Ei,cL,bC,aA];rfl
  rw[e1,u6];unfold Yw Wl;have hw1:i64.wrap ((i:Int)+(y.length:Int))=((i+y.length:Nat):Int):=bD;have hw2:=ca i;have hw4:u32.wrap (c':Int)=(c':Int):=by rw[dt,oi u3]
  have hb1:(0:Int)<=((i+y.length:Nat):Int)/\((i+y.length:Nat):Int)<(n:Int):=by omega
  have hb2:0+(i+y.length)<(cellsOf o').length:=by rw[fk];omega
  rw[vj,cL,bB,hw1,hw2,hw4,aN hb1,abe,Bool.and_true,aN hb2,abv,iB,aA]
theorem Is(bx by_:Bool)(x y:List Int)(hx:ep x)(hy:ep y)(n:Nat)(hn:n=x.length+y.length+1)(hb:n<=1000000):∀(d i:Nat) (out:List Int),i+d=x.length->ep out->out.length=n->(∀j,i+y.length<=j->j<out.length->out[j]?=some 0)->aW out=aW (x.take i)*aW y->
  rk prog aK (Wl bx by_ x y n i out)=some (.d (.l (nb (aW x*aW y)) (ws (aW x*aW y))),[]):=by
 intro d
 induction d with
 |zero=>
  intro i out hi hu hl hz hv;have hix:i=x.length:=by omega
  subst hix;rw[List.take_length]at hv;unfold Wl;have hc:=uD out hu (by omega);rw[hl,hv,nj]at hc;rw[Ei,cL,bB,cr hc,jW,iI,abq,aQ,show (([]:Fl)==[])=true from rfl,aQ,lf];rfl
 |succ d ih=>
  intro i out hi hu hl hz hv;have hix:i<x.length:=by omega
  obtain⟨o',u1,u2,u3,u4,u5⟩:=Q0 bx by_ x y hx hy n hn hb i hix out hu hl hz;rw[u5];refine ih (i+1) o' (by omega) u1 u2 u3 ?_;rw[u4,hv,List.take_add_one,abl hix,eF];simp only[Option.toList_some,aW,Nat.mul_zero,Nat.add_zero,List.length_take,Nat.min_eq_left (Nat.le_of_lt hix)];rw[abw,abm]
theorem oC(b c:Bool)(x y:Nat)(hx:Fits x)(hy:Fits y):rk prog aK (.call 105 [vl b (ws x),vl c (ws y)] [])=some (.d (.l (nb (x*y)) (ws (x*y))),[]):=by
 have lx:=hx.len;have ly:=hy.len
 have h:=Is b c (aT x) (aT y) (cW x) (cW y) ((aT x).length+(aT y).length+1) rfl (by omega) (aT x).length 0 (List.replicate ((aT x).length+(aT y).length+1) 0) (by omega)
  (λ z hz=>by rw[List.mem_replicate]at hz;omega) (by simp) (λ j _ hj=>by simp at hj;simp[hj]) (by rw[gY];simp[aW])
 rw[cM,cM]at h;unfold Wl at h;rw[<-gT,Int.natCast_zero]at h;have hw1:i64.wrap (((aT x).length:Int)+((aT y).length:Int))=(((aT x).length+(aT y).length:Nat):Int):=bD;have hw2:i64.wrap ((((aT x).length+(aT y).length:Nat):Int)+1)=(((aT x).length+(aT y).length+1:Nat):Int):=bD;rw[f29,ed,ed,hw1,hw2,aN,aN rfl,aN,abe,aA];exact h
theorem Bt(n:Nat)(hn:n<=1000):∀(d i:Nat) (b:Bool),i+d=n->
  rk prog aK (Lm (n:Int) (i:Int) b (ws (10^i)) [])=some (.d (.l (if d=0 then b else nb (10^n)) (ws (10^n))),[])
 |0,i,b,h=>by
  have:i=n:=by omega
  subst this;rw[Ej,bB,aG,aaR rfl]
 |d+1,i,b,h=>by
  have hw:=ca i;have hm:rk prog aK (.call 105 [vl b (ws (10^i)),vl true [D.i u32 10]] [])=some (.d (.l (nb (10^i*10)) (ws (10^i*10))),[]):=by have:=oC b true (10^i) 10 (sG (by omega)) (by have:=sG (n:=1) (by decide);rwa[Nat.pow_one]at this);rw[show ws 10=[D.i u32 10] by rw[ws,fL (by decide),show 10 / W=0 by decide,bZ];rfl]at this;exact this
  rw[Ej,bC,eR hm,hw,aA,<-abx];have:=Bt n hn d (i+1) (nb (10^(i+1))) (by omega);have e:(if d=0 then nb (10^(i+1))else nb (10^n))=nb (10^n):=by
   split
   ·rw[show i+1=n by omega]
   ·rfl
  rw[this,e,aaN (show ¬d+1=0 by omega)]
theorem Dk:ws 1=[D.i u32 1]:=by rw[ws,fL (by decide),show 1 / W=0 by decide,bZ];rfl
def tb(n:Nat):Bool:=if n=0 then true else nb (10^n)
theorem qB(n:Nat)(hn:n<=1000):rk prog aK (.call 106 [vi (n:Int)] [])=some (.d (.l (tb n) (ws (10^n))),[]):=by have:=Bt n hn n 0 true (by omega);rw[Nat.pow_zero,Dk]at this;rw[f31,bB,aA];exact this
section
variable {f : Task → Option Out}
theorem Kp{t:Task}{b c:Bool}{l:List D}{e e':V}{K:Bool->List D->Bool->Tr}(h:f t=some (.t [.d (.l b l),.d (.b c)],[])):
  aD f (.call t λ o=>aO o.snd.isEmpty (dI o.fst λ l=>aO (l.length==2) (bG (l.getD 0 e) λ d=>gX d λ x y=>bG (l.getD 1 e') λ d'=>jz d' λ z=>K x y z)))=aD f (K b l c):=cr h
end
theorem Zf{z k:Nat}(hz:z<2^k)(hk:k<32):u32.wrap (((BitVec.ofInt u32.bits (z:Int) ||| BitVec.ofInt u32.bits (u32.wrap (1*2^k))).toNat:Nat):Int)=((z+2^k:Nat):Int)/\z+2^k<4294967296:=by
 have h2:2^k<=2147483648:=abI (abM (by decide) (show k<=31 by omega)) (by decide);have hlt:z+2^k<4294967296:=by omega
 refine⟨?_,hlt⟩;have e:(1:Int)*2^k=((2^k:Nat):Int):=by simp
 rw[e,dt (((2^k:Nat)):Int),oi (by omega)];have h3:(BitVec.ofInt u32.bits (z:Int) ||| BitVec.ofInt u32.bits ((2^k:Nat):Int)).toNat=z ||| 2^k:=by show (BitVec.ofInt 32 (z:Int) ||| BitVec.ofInt 32 ((2^k:Nat):Int)).toNat=_;rw[BitVec.toNat_or,BitVec.ofInt_natCast,BitVec.ofInt_natCast,BitVec.toNat_ofNat,BitVec.toNat_ofNat,abF (by omega),abF (by omega)]
 have h4:z ||| 2^k=z+2^k:=by
  have:=pU (a:=1) hz
  rwa[Nat.one_mul]at this
 rw[h3,h4,dt];omega
theorem U1{qs:List Int}(hu:ep qs){p:Nat}(hp:p / 32<qs.length)(hv:aW qs<2^p):
  ∃z:Nat,qs[p / 32]?=some (z:Int)/\u32.wrap (((BitVec.ofInt u32.bits (z:Int) ||| BitVec.ofInt u32.bits (u32.wrap (1*2^(p%32)))).toNat:Nat):Int)=((z+2^(p%32):Nat):Int)/\
   ep (qs.set (p / 32) ((z+2^(p%32):Nat):Int))/\aW (qs.set (p / 32) ((z+2^(p%32):Nat):Int))=aW qs+2^p:=by
 have hwd:=Dj hu hp;have hlow:aW qs / W^(p / 32)%W<2^(p%32):=by refine Nat.lt_of_le_of_lt (Nat.mod_le _ _) (Nat.div_lt_of_lt_mul ?_);rw[Dv (p / 32) (p%32),Nat.div_add_mod];exact hv
 have hval:=mA qs (p / 32) ((aW qs / W^(p / 32)%W+2^(p%32):Nat):Int) hp;rw[hwd,abe,abe,abA,Dv (p / 32) (p%32),Nat.div_add_mod]at hval;have hg:qs[p / 32]?=some ((aW qs / W^(p / 32)%W:Nat):Int):=by rw[abl hp,hwd]
 obtain⟨h1,h2⟩:=Zf hlow (abz _ (by decide));exact⟨_,hg,h1,hu.set _ h2,by omega⟩
theorem Q9{qs:List Int}(hu:ep qs){i m:Nat}(hp:i / 32<qs.length)(hv:aW qs=2^(i+1)*m):
  ∃z:Nat,qs[i / 32]?=some (z:Int)/\u32.wrap (((BitVec.ofInt u32.bits (z:Int) ||| BitVec.ofInt u32.bits (u32.wrap (1*2^(i%32)))).toNat:Nat):Int)=((z+2^(i%32):Nat):Int)/\
   ep (qs.set (i / 32) ((z+2^(i%32):Nat):Int))/\aW (qs.set (i / 32) ((z+2^(i%32):Nat):Int))=2^i*(2*m+1):=by
 have hk:i%32<32:=abz _ (by decide);have hwd:=Dj hu hp;have hz:aW qs / W^(i / 32)%W<4294967296:=abz _ iJ;have hlow:aW qs / W^(i / 32)%W%2^(i%32+1)=0:=E1 (q:=i / 32) (m:=m) hk (by rw[Nat.div_add_mod];exact hv);have hval:=mA qs (i / 32) ((aW qs / W^(i / 32)%W+2^(i%32):Nat):Int) hp;rw[hwd,abe,abe,abA,Dv (i / 32) (i%32),Nat.div_add_mod]at hval;have hg:qs[i / 32]?=some ((aW qs / W^(i / 32)%W:Nat):Int):=by rw[abl hp,hwd]
 obtain⟨h1,h2⟩:=Ze hz hk hlow;refine⟨_,hg,h1,hu.set _ h2,?_⟩;have:2^(i+1)=2*2^i:=by rw[abx,abD]
 have e:2^i*(2*m+1)=2^(i+1)*m+2^i:=by rw[this,abA,Nat.mul_one,<-abm,abD (2^i) 2]
 rw[e];omega
def ZZ(b:Bool)(x n L i:Nat)(out:List Int):Task:=
 SV (V.m 0 0 L) (n:Int) (i:Int) b (ws x) [aC (cellsOf out)]
theorem NI(b:Bool)(x n:Nat)(hx:Fits x)(hn:n<=100000)(L:Nat)(hL:L=(aT x).length+n / 32+1):∀(d i:Nat) (out:List Int),i+d=32*(aT x).length->ep out->out.length=L->aW out=x%2^i*2^n->
  rk prog aK (ZZ b x n L i out)=some (.d (.l (nb (x*2^n)) (ws (x*2^n))),[]):=by
 have lx:=hx.len;have hw0:i64.wrap (32*((aT x).length:Int))=((32*(aT x).length:Nat):Int):=bD;intro d
 induction d with
 |zero=>
  intro i out hi hu hl hv;have hxl:x<2^i:=by rw[show i=32*(aT x).length by omega,<-nK];exact gP x
  rw[abF hxl]at hv;have hc:=uD out hu (by omega);rw[hl,hv,nj]at hc;unfold ZZ;rw[Ek,ed,hw0,bB,cr hc,jW,iI,abq,aQ,show (([]:Fl)==[])=true from rfl,aQ,lf];rfl
 |succ d ih=>
  intro i out hi hu hl hv;have hw1:=ca i;have hw2:i64.wrap ((i:Int)+(n:Int))=((i+n:Nat):Int):=bD;have hms:x%2^(i+1)=x%2^i+2^i*(x / 2^i%2):=by rw[abx,Nat.mod_mul]
  have hlow:x%2^i*2^n<2^(i+n):=by rw[abC];exact abO (abz _ (abt (by decide))) (abt (by decide))
  unfold ZZ at ih⊢;rw[Ek,ed,hw0,bC,gF (wz b x i (by omega))];rcases Nat.mod_two_eq_zero_or_one (x / 2^i)with h|h
  ·rw[h,bp (by decide),aA,xv,bH,hw1,aA]
   exact ih (i+1) out (by omega) hu hl (by rw[hms,h,Nat.mul_zero,Nat.add_zero];exact hv)
  ·have hq:(i+n) / 32<out.length:=by omega
   obtain⟨z,z1,z2,z3,z4⟩:=U1 hu hq (by rw[hv];exact hlow);have ht1:((i+n:Nat):Int).tdiv 32=(((i+n) / 32:Nat):Int):=fV (i+n) 32;have ht2:((i+n:Nat):Int).tmod 32=(((i+n)%32:Nat):Int):=kM (i+n) 32;have hw3:i64.wrap (((i+n) / 32:Nat):Int)=(((i+n) / 32:Nat):Int):=bD;have hmin:min ((i+n)%32) 32=(i+n)%32:=by omega
   have hb1:(0:Int)<=(((i+n) / 32:Nat):Int)/\(((i+n) / 32:Nat):Int)<(L:Int):=by omega
   have hb2:0+(i+n) / 32<(cellsOf out).length:=by rw[fk];omega
   have hg:(cellsOf out)[0+(i+n) / 32]?=some (V.d (D.i .u32 (z:Int))):=by rw[abv,dw,z1];rfl
   rw[h,bM (by decide),hw2,aA,show decide (((i+n:Nat):Int) ≥ 0)=true from aa3 (by omega),xv,bQ,hw2,ht1,hw3,aN hb1,abe,bz hg,dN,cT,ht2,aN,aN hb1,Bool.and_true,aN hb2,abe,hmin,z2,hw1,abv,iB,aA];exact ih (i+1) _ (by omega) z3 (by simpa using hl) (by rw[z4,hv,hms,h,Nat.mul_one,abw,abC])
theorem wB(b:Bool)(x n:Nat)(hx:Fits x)(hn:n<=100000):rk prog aK (.call 102 [vl b (ws x),vi (n:Int)] [])=some (.d (.l (nb (x*2^n)) (ws (x*2^n))),[]):=by have lx:=hx.len;have e1:(if (0:Int)>(n:Int)then 0 else(n:Int))=(n:Int):=aaN (by omega);have e2:(n:Int).tdiv 32=((n / 32:Nat):Int):=fV n 32;have w1:i64.wrap ((n / 32:Nat):Int)=((n / 32:Nat):Int):=bD;have w2:i64.wrap (((aT x).length:Int)+((n / 32:Nat):Int))=(((aT x).length+n / 32:Nat):Int):=bD;have w3:i64.wrap ((((aT x).length+n / 32:Nat):Int)+1)=(((aT x).length+n / 32+1:Nat):Int):=bD;have h:=NI b x n hx hn _ rfl (32*(aT x).length) 0 (List.replicate ((aT x).length+n / 32+1) 0) (by omega) (λ z hz=>by rw[List.mem_replicate]at hz;omega) (by simp) (by rw[gY,Nat.pow_zero,Nat.mod_one,Nat.zero_mul]);unfold ZZ at h;rw[<-gT,Int.natCast_zero]at h;rw[f40,ed,e1,e2,w1,w2,w3,aN,aN rfl,aN,abe,aA];exact h
def UP(bx by_:Bool)(x y n:Nat)(br:Bool)(r:Nat)(i:Int)(fl:List (Nat×Nat))(qs:List Int):Task:=
 Task.at_ 107 0 (aJ 175) (sq3 (V.m 0 0 n) i bx by_ br (ws x) (ws y) (ws r)) fl [aC (cellsOf qs)]
theorem NA(bx by_ br:Bool)(x y n r i:Nat)(fl:List (Nat×Nat))(hfl:fl=[(8,1)]\/fl=[])(qs:List Int)(hy:Fits y)(hr:Fits r)(hr2:Fits (r+r))(hr3:Fits (r+r+x / 2^i%2))(hn:n=qs.length)(hi:i<32*n)(hn2:n<=100000)(hu:ep qs)(m:Nat)(hv:aW qs=2^(i+1)*m):
  (r+r+x / 2^i%2<y->rk prog aK (UP bx by_ x y n br r (i:Int) fl qs)=rk prog aK (UP bx by_ x y n (nb (r+r+x / 2^i%2)) (r+r+x / 2^i%2) ((i:Int)-1) [] qs))/\
  (y<=r+r+x / 2^i%2->∃qs',ep qs'/\qs'.length=n/\aW qs'=2^i*(2*m+1)/\rk prog aK (UP bx by_ x y n br r (i:Int) fl qs)=rk prog aK (UP bx by_ x y n (nb (r+r+x / 2^i%2-y)) (r+r+x / 2^i%2-y) ((i:Int)-1) [] qs')):=by
 have a1:=ox br br r r hr hr;have a2:=wz bx x i (by omega);have a3:=yn (x / 2^i%2) (Nat.lt_trans (abz _ (by decide)) (by decide));have a4:=ox (nb (r+r)) (nb (x / 2^i%2)) (r+r) (x / 2^i%2) hr2 (Cp.le (by omega));have a5:=UY (nb (r+r+x / 2^i%2)) by_ (r+r+x / 2^i%2) y hr3 hy;have w1:i64.wrap ((i:Int)-1)=(i:Int)-1:=bD;constructor
 ·intro h;rw[aaR h]at a5;unfold UP;rcases hfl with rfl|rfl
  ·rw[uo,bC,eR a1,gF a2,eR a3,eR a4,Kp a5,bH,aA,nX,w1,aA]
  ·rw[pv,bC,eR a1,gF a2,eR a3,eR a4,Kp a5,bH,aA,nX,w1,aA]
 ·intro h;rw[cE]at a5;have hq:i / 32<qs.length:=by omega
  obtain⟨z,z1,z2,z3,z4⟩:=Q9 hu hq hv;have ht1:(i:Int).tdiv 32=((i / 32:Nat):Int):=fV i 32;have ht2:(i:Int).tmod 32=((i%32:Nat):Int):=kM i 32;have hw:i64.wrap ((i / 32:Nat):Int)=((i / 32:Nat):Int):=bD;have hmin:min (i%32) 32=i%32:=by omega
  have hb1:(0:Int)<=((i / 32:Nat):Int)/\((i / 32:Nat):Int)<(n:Int):=by omega
  have hb2:0+i / 32<(cellsOf qs).length:=by rw[fk];omega
  have hg:(cellsOf qs)[0+i / 32]?=some (V.d (D.i .u32 (z:Int))):=by rw[abv,dw,z1];rfl
  refine⟨_,z3,by simp[hn],z4,?_⟩;unfold UP;rcases hfl with rfl|rfl
  ·rw[uo,bC,eR a1,gF a2,eR a3,eR a4,Kp a5,bQ,ht1,hw,aN hb1,abe,bz hg,dN,cT,ht2,aN,aN hb1,Bool.and_true,aN hb2,abe,hmin,z2,abv,iB,aA,nX,w1,aA]
  ·rw[pv,bC,eR a1,gF a2,eR a3,eR a4,Kp a5,bQ,ht1,hw,aN hb1,abe,bz hg,dN,cT,ht2,aN,aN hb1,Bool.and_true,aN hb2,abe,hmin,z2,abv,iB,aA,nX,w1,aA]
theorem Nz(bx by_:Bool)(x y:Nat)(hx:Fits x)(hy:Fits (y*2))(hy0:0<y)(n:Nat)(hnl:n=(aT x).length+1):∀(i:Nat) (fl:List (Nat×Nat)) (r:Nat) (qs:List Int),(fl=[(8,1)]\/fl=[])->i<=32*(aT x).length->r=x / 2^i%y->aW qs=2^i*(x / 2^i / y)->ep qs->qs.length=n->
  rk prog aK (UP bx by_ x y n (nb r) r ((i:Int)-1) fl qs)=some (.t [.d (.l (nb (x / y)) (ws (x / y))),.d (.l (nb (x%y)) (ws (x%y))),.d (.b true)],[]):=by
 have lx:=hx.len;intro i
 induction i with
 |zero=>
  intro fl r qs hfl hi hr hv hu hl;rw[Nat.pow_zero,Nat.div_one]at hr;rw[Nat.pow_zero,Nat.div_one,Nat.one_mul]at hv;have hc:=uD qs hu (by omega);rw[hl,hv,nj]at hc;unfold UP;rw[hr];rcases hfl with rfl|rfl
  ·rw[uo,bB,cr hc,jW,iI,abq,aQ,show (([]:Fl)==[])=true from rfl,aQ,lf];rfl
  ·rw[pv,bB,cr hc,jW,iI,abq,aQ,show (([]:Fl)==[])=true from rfl,aQ,lf];rfl
 |succ i ih=>
  intro fl r qs hfl hi hr hv hu hl;have hry:r<y:=by rw[hr];exact abz _ hy0
  have e:(((i+1:Nat):Int)-1)=(i:Int):=by omega
  have hb:=Nat.mod_two_eq_zero_or_one (x / 2^i);have fr:Fits r:=hy.le (by omega);have fr2:Fits (r+r):=hy.le (by omega);have fr1:Fits (r+r+x / 2^i%2):=hy.le (by omega);have hX:x / 2^i=2*(x / 2^(i+1))+x / 2^i%2:=by rw[abx,<-Nat.div_div_eq_div_mul];have:=Nat.div_add_mod (x / 2^i) 2;omega
  have hdm:=Nat.div_add_mod (x / 2^(i+1)) y;rw[<-hr]at hdm;have hXY:x / 2^i=y*(2*(x / 2^(i+1) / y))+(r+r+x / 2^i%2):=by
   have:y*(2*(x / 2^(i+1) / y))=2*(y*(x / 2^(i+1) / y)):=by rw[Nat.mul_left_comm]
   omega
  rw[e];have hm:=NA bx by_ (nb r) x y n r i fl hfl qs (hy.le (by omega)) fr fr2 fr1 hl.symm (by omega) (by omega) hu (x / 2^(i+1) / y) hv;by_cases hlt:r+r+x / 2^i%2<y
  ·rw[hm.1 hlt];have hq:x / 2^i / y=2*(x / 2^(i+1) / y):=by
    conv=>lhs;rw[hXY]
    rw[Nat.mul_add_div hy0,Nat.div_eq_of_lt hlt,Nat.add_zero]
   have hrr:x / 2^i%y=r+r+x / 2^i%2:=by
    conv=>lhs;rw[hXY]
    rw[Nat.mul_add_mod,abF hlt]
   refine ih [] _ qs (Or.inr rfl) (by omega) hrr.symm ?_ hu hl;rw[hv,hq,abx,abm]
  ·obtain⟨qs',u1,u2,u3,u4⟩:=hm.2 (by omega)
   rw[u4];have hq:x / 2^i / y=2*(x / 2^(i+1) / y)+1:=by
    conv=>lhs;rw[hXY]
    have hd1:(r+r+x / 2^i%2) / y=1:=Nat.div_eq_of_lt_le (by omega) (by omega);rw[Nat.mul_add_div hy0,hd1]
   have hrr:x / 2^i%y=r+r+x / 2^i%2-y:=by
    conv=>lhs;rw[hXY]
    rw[Nat.mul_add_mod,Nat.mod_eq_sub_mod (by omega),abF (by omega)]
   refine ih [] _ qs' (Or.inr rfl) (by omega) hrr.symm ?_ u1 u2;rw[u3,hq]
theorem Kc(b c:Bool)(x y:Nat)(hx:Fits x)(hy:Fits (y*2))(hy0:0<y):rk prog aK (.call 107 [vl b (ws x),vl c (ws y)] [])=some (.t [.d (.l (nb (x / y)) (ws (x / y))),.d (.l (nb (x%y)) (ws (x%y))),.d (.b true)],[]):=by
 have lx:=hx.len;have hyl:(aT y).length≠0:=λ e=>by
  have:=(fZ y).1 (List.length_eq_zero_iff.1 e);omega
 have w1:i64.wrap (((aT x).length:Int)+1)=(((aT x).length+1:Nat):Int):=bD;have w2:i64.wrap (32*((aT x).length:Int))=((32*(aT x).length:Nat):Int):=bD;have w3:i64.wrap (((32*(aT x).length:Nat):Int)-1)=((32*(aT x).length:Nat):Int)-1:=bD;have hx0:x / 2^(32*(aT x).length)=0:=Nat.div_eq_of_lt (by rw[<-nK];exact gP x);have h:=Nz b c x y hx hy hy0 _ rfl (32*(aT x).length) [(8,1)] 0 (List.replicate ((aT x).length+1) 0) (Or.inl rfl) (aa4 _) (by rw[hx0,Nat.zero_mod]) (by rw[hx0,Nat.zero_div,Nat.mul_zero,gY]) (λ z hz=>by rw[List.mem_replicate]at hz;omega) (by simp);unfold UP at h;rw[<-gT,wK]at h;rw[f43,eR (FP c y (hy.le (by omega))),ed,ed,bp,w1,w2,w3,aN,aN rfl,aN,abe,aA];exact h
set_option exponentiation.threshold 5000000
def U:Nat:=2^1074
def E:Nat:=18014398509481983
theorem TE:E+1=2*2^53:=by decide
theorem V2:0<U:=abt (by decide)
theorem ac1(a b c d:Nat):a*(b*c)*d=a*(d*b)*c:=by ac_rfl
theorem ac4(a b c:Nat):a*b*c*2=a*(b*2*c):=by ac_rfl
theorem Fs{k:Nat}(h:0<k):2^k=2^(k-1)*2:=by rw[<-abx,Nat.succ_eq_add_one,Nat.sub_add_cancel h]
theorem Tw(a b c:Nat):a*b*c=a*c*b:=by ac_rfl
theorem ac3(x a b:Nat):2*x*(a*b)=2*(x*a)*b:=by ac_rfl
theorem B1{k:Nat}(h:k<=1074):U=2^(1074-k)*2^k:=by rw[<-abC,Nat.sub_add_cancel h];rfl
theorem GW{k:Nat}(h:1074<=k):2^k=2^(k-1074)*U:=by unfold U;rw[<-abC,Nat.sub_add_cancel h]
def gr(v:Nat):Nat:=if v<2^52 then v else(v%2^52+2^52)*2^(v / 2^52-1)
theorem vt(k q:Nat)(hq:q<=2^53)(h:k=0\/2^52<=q):gr (k*2^52+q)=q*2^k:=by
 unfold gr;by_cases h0:q<2^52
 ·have hk:k=0:=by omega
  subst hk;rw[aaR (by omega)];omega
 ·rw[cE];by_cases h1:q<2^53
  ·have e1:(k*2^52+q)%2^52+2^52=q:=by omega
   have e2:(k*2^52+q) / 2^52-1=k:=by omega
   rw[e1,e2]
  ·have e1:(k*2^52+q)%2^52+2^52=2^52:=by omega
   have e2:(k*2^52+q) / 2^52-1=k+1:=by omega
   have e3:q=2^52*2:=by omega
   rw[e1,e2,e3,abx 2 k,abD (2^k) 2,abm]
theorem xD(v:Nat):∃k q,q<2^53/\(k=0\/2^52<=q)/\v=k*2^52+q:=by
 by_cases h:v<2^52
 ·exact⟨0,v,by omega,Or.inl rfl,by omega⟩
 ·exact⟨v / 2^52-1,v%2^52+2^52,by omega,Or.inr (by omega),by omega⟩
theorem Cz(k q:Nat)(hq:q<2^53)(h:k=0\/2^52<=q):gr (k*2^52+q+1)=(q+1)*2^k:=by rw[aby];exact vt k (q+1) (by omega) (by omega)
theorem AI(v:Nat):gr v<gr (v+1):=by obtain⟨k,q,h1,h2,rfl⟩:=xD v;rw[vt k q (by omega) h2,Cz k q h1 h2];exact abO (by omega) (abt (by decide))
theorem Cy{v w:Nat}(h:v<=w):gr v<=gr w:=by
 induction h with
 |refl=>exact aa4 _
 |step _ ih=>exact abI ih (Nat.le_of_lt (AI _))
theorem EL{v w:Nat}(h:v<w):gr v<gr w:=abL (AI v) (Cy h)
def iN(v:Nat):Nat:=gr v+gr (v+1)
theorem Qn{v w:Nat}(h:v<=w):iN v<=iN w:=by unfold iN;have:=Cy h;have:=Cy (show v+1<=w+1 by omega);omega
theorem Na{v w:Nat}(h:v<w):iN v<iN w:=by unfold iN;have:=EL h;have:=EL (show v+1<w+1 by omega);omega
def oO(x y v:Nat):Prop:=
 (2*x*U<iN v*y\/(2*x*U=iN v*y/\v%2=0))/\(v=0\/iN (v-1)*y<2*x*U\/(iN (v-1)*y=2*x*U/\v%2=0))
theorem A5{x y v x' y' v':Nat}(h:oO x y v)(h':oO x' y' v')(hy:0<y)(hy':0<y')(hle:x*y'<=x'*y):v<=v':=by
 rcases abn v' v with hlt|hge
 ·exfalso;have hm:iN v'<=iN (v-1):=Qn (by omega);obtain⟨-,hl⟩:=h;obtain⟨hu,-⟩:=h';have e1:2*x*U*y'<=2*x'*U*y:=by
   have:=Nat.mul_le_mul_left (2*U) hle;have a1:2*x*U*y'=2*U*(x*y'):=by ac_rfl
   have a2:2*x'*U*y=2*U*(x'*y):=by ac_rfl
   omega
  have e2:iN v'*y'*y<=iN (v-1)*y*y':=by
   have:=abH (y'*y) hm;have a1:iN v'*y'*y=iN v'*(y'*y):=by ac_rfl
   have a2:iN (v-1)*y*y'=iN (v-1)*(y'*y):=by ac_rfl
   omega
  have l0:iN (v-1)*y<=2*x*U:=by omega
  have u0:2*x'*U<=iN v'*y':=by omega
  have l1:=abH y' l0;have u1:=abH y u0;have k1:iN (v-1)*y=2*x*U:=Nat.eq_of_mul_eq_mul_right hy' (by omega);have k2:2*x'*U=iN v'*y':=Nat.eq_of_mul_eq_mul_right hy (by omega);have k3:iN v'=iN (v-1):=by
   have a1:iN v'*y'*y=iN v'*(y'*y):=by ac_rfl
   have a2:iN (v-1)*y*y'=iN (v-1)*(y'*y):=by ac_rfl
   exact Nat.eq_of_mul_eq_mul_right (Nat.mul_pos hy' hy) (by omega)
  have k4:v'=v-1:=by
   rcases abn v' (v-1)with h3|h3
   ·have:=Na h3;omega
   ·omega
  omega
 ·exact hge
theorem wm{x y v x' y' v':Nat}(h:oO x y v)(h':oO x' y' v')(hy:0<y)(hy':0<y')(he:x*y'=x'*y):v=v':=
 Nat.le_antisymm (A5 h h' hy hy' (Nat.le_of_eq he)) (A5 h' h hy' hy (Nat.le_of_eq he.symm))
theorem JJ{x y v:Nat}(h1:2*x*U<iN v*y)(h2:v=0\/iN (v-1)*y<2*x*U):oO x y v:=⟨Or.inl h1,h2.elim Or.inl λ h=>Or.inr (Or.inl h)⟩
theorem HW{x y v:Nat}(hy:0<y)(h:x*U=gr v*y):oO x y v:=by
 have e:2*x*U=2*gr v*y:=by rw[abm,h,abm]
 refine JJ ?_ ?_
 ·rw[e];refine abO ?_ hy;have:=AI v;unfold iN;omega
 ·rcases Nat.eq_zero_or_pos v with h0|h0
  ·exact Or.inl h0
  ·right;rw[e];refine abO ?_ hy;have:=AI (v-1);unfold iN;rw[Nat.sub_add_cancel h0]at this⊢;omega
theorem sS(x y:Nat)(hy:0<y):2*x<(2*ek x y+1)*y\/(2*x=(2*ek x y+1)*y/\ek x y%2=0):=by
 have hd:=Nat.div_add_mod x y;have hr:x%y<y:=abz _ hy;unfold ek;generalize x / y=q at *;generalize x%y=r at *;have e1:(2*(q+1)+1)*y=2*(y*q)+3*y:=by rw[abw,abm,abw,abD q y];omega
 have e2:(2*q+1)*y=2*(y*q)+y:=by rw[abw,abm,abD q y];omega
 split
 ·rw[e1];omega
 ·rw[e2];omega
theorem qz(x y:Nat)(hy:0<y):2*ek x y*y<2*x+y\/(2*ek x y*y=2*x+y/\ek x y%2=0):=by
 have hd:=Nat.div_add_mod x y;have hr:x%y<y:=abz _ hy;unfold ek;generalize x / y=q at *;generalize x%y=r at *;have e1:2*(q+1)*y=2*(y*q)+2*y:=by rw[abm,abw,abD q y];omega
 have e2:2*q*y=2*(y*q):=by rw[abm,abD q y]
 split
 ·rw[e1];omega
 ·rw[e2];omega
theorem A4(x y k:Nat)(hy:0<y):2*x*U<(2*dh x y ((k:Int)-1074)+1)*2^k*y\/(2*x*U=(2*dh x y ((k:Int)-1074)+1)*2^k*y/\dh x y ((k:Int)-1074)%2=0):=by
 unfold dh;by_cases h:(k:Int)-1074<0
 ·rw[aaR h,show (-((k:Int)-1074)).toNat=1074-k by omega]
  have h1:=sS (x*2^(1074-k)) y hy;have e:=B1 (k:=k) (by omega);generalize ek (x*2^(1074-k)) y=q at *;have e1:2*x*U=2*(x*2^(1074-k))*2^k:=by rw[e];exact ac3 _ _ _
  have e2:(2*q+1)*2^k*y=(2*q+1)*y*2^k:=Tw _ _ _;rw[e1,e2];exact h1.imp (λ h=>abO h (abt (by decide))) (λ h=>⟨by rw[h.1],h.2⟩)
 ·rw[aaN h,show ((k:Int)-1074).toNat=k-1074 by omega]
  have h1:=sS x (y*2^(k-1074)) (Nat.mul_pos hy (abt (by decide)));have e:=GW (k:=k) (by omega);generalize ek x (y*2^(k-1074))=q at *;have e2:(2*q+1)*2^k*y=(2*q+1)*(y*2^(k-1074))*U:=by rw[e];exact ac1 _ _ _ _
  rw[e2];exact h1.imp (λ h=>abO h V2) (λ h=>⟨by rw[h.1],h.2⟩)
theorem rR(x y k:Nat)(hy:0<y):2*dh x y ((k:Int)-1074)*2^k*y<2*x*U+2^k*y\/(2*dh x y ((k:Int)-1074)*2^k*y=2*x*U+2^k*y/\dh x y ((k:Int)-1074)%2=0):=by
 unfold dh;by_cases h:(k:Int)-1074<0
 ·rw[aaR h,show (-((k:Int)-1074)).toNat=1074-k by omega]
  have h1:=qz (x*2^(1074-k)) y hy;have e:=B1 (k:=k) (by omega);generalize ek (x*2^(1074-k)) y=q at *;have e1:2*x*U+2^k*y=(2*(x*2^(1074-k))+y)*2^k:=by rw[e,abw,ac3,abD y]
  have e2:2*q*2^k*y=2*q*y*2^k:=Tw _ _ _;rw[e1,e2];exact h1.imp (λ h=>abO h (abt (by decide))) (λ h=>⟨by rw[h.1],h.2⟩)
 ·rw[aaN h,show ((k:Int)-1074).toNat=k-1074 by omega]
  have h1:=qz x (y*2^(k-1074)) (Nat.mul_pos hy (abt (by decide)));have e:=GW (k:=k) (by omega);generalize ek x (y*2^(k-1074))=q at *;have e1:2*x*U+2^k*y=(2*x+y*2^(k-1074))*U:=by rw[e,abw,Tw _ U y,abD y]
  have e2:2*q*2^k*y=2*q*(y*2^(k-1074))*U:=by rw[e];exact ac1 _ _ _ _
  rw[e1,e2];exact h1.imp (λ h=>abO h V2) (λ h=>⟨by rw[h.1],h.2⟩)
theorem xU(k q:Nat)(hq:q<2^53)(h:k=0\/2^52<=q):iN (k*2^52+q)=(2*q+1)*2^k:=by rw[iN,vt k q (by omega) h,Cz k q hq h,<-abw,show q+(q+1)=2*q+1 by omega]
theorem Nb(k q:Nat)(hq:q<2^53)(h0:0<q)(h:k=0\/2^52<q):iN (k*2^52+q-1)=(2*q-1)*2^k:=by
 have e:k*2^52+q-1=k*2^52+(q-1):=by omega
 rw[e,xU k (q-1) (by omega) (by omega),show 2*(q-1)+1=2*q-1 by omega]
theorem Qm(k:Nat)(hk:0<k):iN (k*2^52+2^52-1)=E*2^(k-1):=by
 have hE:=TE;obtain⟨q,hq⟩:∃q,q+1=2^53:=⟨2^53-1,by omega⟩
 have e:k*2^52+2^52-1=(k-1)*2^52+q:=by omega
 rw[e,xU (k-1) q (by omega) (by omega),show 2*q+1=E by omega]
theorem Fb(q X A y k:Nat)(hp:0<A*y)(hu:X<(2*q+1)*A*y\/(X=(2*q+1)*A*y/\q%2=0))(B:Nat)(hB:0<k->A=B*2)
  (hlow:k=0\/E*B*y<=X):k=0\/4503599627370496<=q:=by
 have hE:=TE;rcases hlow with h|h
 ·exact Or.inl h
 ·rcases Nat.eq_zero_or_pos k with h0|h0
  ·exact Or.inl h0
  ·right;have e:E*B*y*2=E*(A*y):=by rw[hB h0];exact ac4 _ _ _
   have h1:X<=(2*q+1)*(A*y):=by rw[<-abm];omega
   have h2:E*(A*y)<=(2*(2*q+1))*(A*y):=by rw[abm 2 (2*q+1)];omega
   have h3:=Nat.le_of_mul_le_mul_right h2 hp;omega
theorem vC(q X A y:Nat)(hq:0<q)(hl:2*q*A*y<X+A*y\/(2*q*A*y=X+A*y/\q%2=0)):(2*q-1)*A*y<X\/((2*q-1)*A*y=X/\q%2=0):=by
 have e2:(2*q-1)*A*y+A*y=2*q*A*y:=by rw[abm,abm (2*q),<-Nat.succ_mul,show (2*q-1).succ=2*q by omega]
 rcases hl with h|h
 ·left;omega
 ·right;exact⟨by omega,h.2⟩
theorem xZ(x y k:Nat)(hy:0<y)(hq:dh x y ((k:Int)-1074)<2^53)(hlow:k=0\/E*2^(k-1)*y<=2*x*U):
  oO x y (k*2^52+dh x y ((k:Int)-1074))/\(k=0\/2^52<=dh x y ((k:Int)-1074)):=by
 have hu:=A4 x y k hy;have hl:=rR x y k hy;generalize dh x y ((k:Int)-1074)=q at *;have hp:0<2^k*y:=Nat.mul_pos (abt (by decide)) hy;have h52:k=0\/2^52<=q:=Fb q _ _ y k hp hu (2^(k-1)) Fs hlow;refine⟨⟨?_,?_⟩,h52⟩
 ·rw[xU k q hq h52];refine hu.imp id λ h=>⟨h.1,?_⟩
  omega
 ·by_cases h0:k*2^52+q=0
  ·exact Or.inl h0
  ·right;by_cases hb:k=0\/2^52<q
   ·rw[Nb k q hq (by omega) hb]
    exact(vC q _ _ y (by omega) hl).imp id λ h=>⟨h.1,by omega⟩
   ·have hk:0<k:=by omega
    have hq2:q=2^52:=by omega
    have hev:(k*2^52+q)%2=0:=by omega
    rw[hq2,Qm k hk];rw[hq2]at hev;rcases hlow with h|h
    ·omega
    ·exact(Nat.lt_or_eq_of_le h).imp id λ h1=>⟨h1,hev⟩
theorem rN(x y k:Nat)(hy:0<y)(hq:2^53<=dh x y ((k:Int)-1074)):E*2^k*y<=2*x*U:=by
 have hl:=rR x y k hy;have hE:=TE;generalize dh x y ((k:Int)-1074)=q at *;have h1:E*2^k*y+2^k*y=(E+1)*2^k*y:=by rw[abm,abm (E+1),Nat.succ_mul]
 have h2:(E+1)*2^k*y<=2*q*2^k*y:=abH _ (abH _ (by omega));omega
theorem sO(x y k:Nat)(hx:x≠0)(hk:0<k)(h:(k:Int)-1074=(bJ x:Int)-bJ y-53):E*2^(k-1)*y<=2*x*U:=by
 have hx1:=ql x hx;have hy1:=og y;have bx:=mW hx;have hE:=TE;have h1:2^54*2^(k-1)*2^bJ y=2*2^(bJ x-1)*U:=by unfold U;rw[<-abC,<-abC,abD 2 (2^(bJ x-1)),<-abx,<-abC];congr 1;omega
 have h2:E*2^(k-1)*y<=2^54*2^(k-1)*2^bJ y:=Nat.mul_le_mul (abH _ (by omega)) (Nat.le_of_lt hy1);have h3:2*2^(bJ x-1)*U<=2*x*U:=abH _ (Nat.mul_le_mul_left _ hx1);omega
def xA(v:Nat):Nat×Bool:=if v<2047*2^52 then(v,true) else(0,false)
theorem rK(k q:Nat)(hq:q<2^53)(h:k=0\/2^52<=q):jL q ((k:Int)-1074)=xA (k*2^52+q):=by
 unfold jL xA;by_cases h1:q<2^52
 ·rw[aaR h1,aaR (by omega)]
  have:k=0:=by omega
  subst this;simp
 ·rw[aaN h1];by_cases h2:971<(k:Int)-1074
  ·rw[aaR h2,cE]
  ·rw[aaN h2,aaR (by omega)]
   rw[show ((k:Int)-1074+1075).toNat=k+1 by omega,show (k+1)*2^52+(q-2^52)=k*2^52+q by omega]
theorem nM(x y:Nat)(hy:0<y):∃v,oO x y v/\iQ x y=xA v:=by
 by_cases h0:x=0
 ·refine⟨0,⟨Or.inl ?_,Or.inl rfl⟩,?_⟩
  ·subst h0;rw[Nat.mul_zero,Nat.zero_mul];exact Nat.mul_pos (by decide) hy
  ·rw[iQ,aaR h0];decide
 ·have hf:-1074<=fC x y:=Int.le_max_right ..;have key:∀k:Nat,dh x y ((k:Int)-1074)<2^53->(k=0\/E*2^(k-1)*y<=2*x*U)->∃v,oO x y v/\jL (dh x y ((k:Int)-1074)) ((k:Int)-1074)=xA v:=by intro k hq hl;obtain⟨h1,h2⟩:=xZ x y k hy hq hl;exact⟨_,h1,rK k _ hq h2⟩
  obtain⟨k,hk⟩:∃k:Nat,fC x y=(k:Int)-1074:=⟨(fC x y+1074).toNat,by omega⟩
  have e1:(k:Int)-1074+1=((k+1:Nat):Int)-1074:=by omega
  have e2:(k:Int)-1074+2=((k+2:Nat):Int)-1074:=by omega
  have h3:=Rz x y h0 hy;rw[iQ,aaN h0];rw[hk]at h3⊢;rw[e2]at h3⊢;rw[e1];split
  ·rename_i hb;refine key k ((du _ _).1 hb) ?_;rcases Nat.eq_zero_or_pos k with h|h
   ·exact Or.inl h
   ·exact Or.inr (sO x y k h0 h (by unfold fC at hk;omega))
  ·rename_i hb;split
   ·rename_i hb1;refine key (k+1) ((du _ _).1 hb1) (Or.inr ?_);exact rN x y k hy (by have:=mt (du _ _).2 hb;omega)
   ·rename_i hb1;refine key (k+2) (by omega) (Or.inr ?_);exact rN x y (k+1) hy (by have:=mt (du _ _).2 hb1;omega)
section
variable {f : Task → Option Out}
theorem Ri{t:Task}{b c z:Bool}{l m:List D}{e e' e'':V}{K:Bool->List D->Bool->List D->Bool->Tr}(h:f t=some (.t [.d (.l b l),.d (.l c m),.d (.b z)],[])):
  aD f (.call t λ o=>aO o.snd.isEmpty (dI o.fst λ l=>aO (l.length==3) (bG (l.getD 0 e) λ d=>gX d λ x y=>bG (l.getD 1 e') λ d'=>gX d' λ u v=>bG (l.getD 2 e'') λ d''=>jz d'' λ w=>K x y u v w)))=aD f (K b l c m z):=cr h
end
theorem J0(q:Nat)(e:Int)(hq:q<2^53)(he1:-1074<=e)(he2:e<=1000000):
  rk prog aK (LR (q:Int) e [])=some (.t [.d (.i .u64 ((jL q e).1:Nat)),.d (.b (jL q e).2)],[]):=by
 rw[Ud];unfold jL;by_cases h:q<2^52
 ·rw[bC,aG,aaR h]
 ·rw[bB,aaN h];by_cases h2:e>971
  ·rw[bC h2,aG,aaR h2];rfl
  ·have hw1:i64.wrap (e+1075)=((e+1075).toNat:Int):=bD;have hE:(e+1075).toNat<=2046:=by omega
   rw[bB h2,aaN (show ¬971<e from h2),hw1,aG];generalize (e+1075).toNat=F at hE⊢;have hw2:u64.wrap (F:Int)=(F:Int):=by rw[aY];omega
   have hw3:u64.wrap ((F:Int)*4503599627370496)=((F*2^52:Nat):Int):=by rw[aY];omega
   have hw4:u64.wrap ((q:Int)-4503599627370496)=((q-2^52:Nat):Int):=by rw[aY];omega
   have hor:(BitVec.ofInt u64.bits ((F*2^52:Nat):Int) ||| BitVec.ofInt u64.bits ((q-2^52:Nat):Int)).toNat=F*2^52+(q-2^52):=by have:=mK (a:=F*2^52) (b:=q-2^52) (by omega) (by omega);rw[XS (by omega)]at this;exact this
   have hw5:u64.wrap ((F*2^52+(q-2^52):Nat):Int)=((F*2^52+(q-2^52):Nat):Int):=by rw[aY];omega
   rw[hw2,hw3,hw4,hor,hw5]
theorem QD(q k:Nat)(hq:q<=2^53)(hk:k<=900000)(h:k=0\/2^52<=q):
  rk prog aK (.call 215 [vu (q:Int),vi ((k:Int)-1074)] [])=some (.t [.d (.i .u64 ((xA (k*2^52+q)).1:Nat)),.d (.b (xA (k*2^52+q)).2)],[]):=by
 rw[f60];by_cases hq1:q=2^53
 ·have e1:(q:Int).tdiv 2=((q / 2:Nat):Int):=fV q 2;have e2:u64.wrap ((q / 2:Nat):Int)=((2^52:Nat):Int):=by rw[aY];omega
  have e3:i64.wrap ((k:Int)-1074+1)=((k+1:Nat):Int)-1074:=bD;have:=J0 (2^52) (((k+1:Nat):Int)-1074) (by decide) (by omega) (by omega);rw[rK (k+1) (2^52) (by decide) (Or.inr (aa4 _)),show (k+1)*2^52+2^52=k*2^52+q by omega]at this;rw[bM,e1,e2,e3,aA];exact this
 ·have:=J0 q ((k:Int)-1074) (by omega) (by omega) (by omega)
  rw[rK k q (by omega) h]at this;rw[bp,aA];exact this
theorem Fa(x y k:Nat)(hy:0<y)(hq:dh x y ((k:Int)-1074)<=2^53)(hlow:k=0\/E*2^(k-1)*y<=2*x*U):
  oO x y (k*2^52+dh x y ((k:Int)-1074))/\(k=0\/2^52<=dh x y ((k:Int)-1074)):=by
 rcases abn (dh x y ((k:Int)-1074)) (2^53)with h|h
 ·exact xZ x y k hy h hlow
 ·have hu:=A4 x y k hy;have hl:=rR x y k hy;generalize dh x y ((k:Int)-1074)=q at *;have hqe:q=2^53:=by omega
  refine⟨⟨Or.inl ?_,Or.inr ?_⟩,Or.inr (by omega)⟩
  ·have hm:(2*q+1)*2^k<iN (k*2^52+q):=by
    have e:k*2^52+q=(k+1)*2^52+2^52:=by omega
    rw[e,xU (k+1) (2^52) (by decide) (Or.inr (aa4 _)),abx 2 k,abD (2^k) 2,<-abm];exact abO (by omega) (abt (by decide))
   have:=abO hm hy;omega
  ·have hm:iN (k*2^52+q-1)=(2*q-1)*2^k:=by
    have e:k*2^52+q-1=k*2^52+(q-1):=by omega
    rw[e,xU k (q-1) (by omega) (Or.inr (by omega)),show 2*(q-1)+1=2*q-1 by omega]
   rw[hm];exact(vC q _ _ y (by omega) hl).imp id λ h=>⟨h.1,by omega⟩
theorem Qr{x y v:Nat}(hy:0<y)(h:oO x y v):iQ x y=xA v:=by obtain⟨w,nw,hw⟩:=nM x y hy;rw[hw,wm nw h hy hy rfl]
theorem Iu(k A B:Nat)(q:Nat)(hqn:ek A B=q)(hq:q<=2^53)(hk:k<=900000)(h:k=0\/2^52<=q)(hA:Fits (A / B))(bb:Bool)(hbb:bb=true↔(B<2*(A%B)\/(2*(A%B)=B/\A / B%2=1))):
  rk prog aK (SW ((k:Int)-1074) (nb (A / B)) bb (ws (A / B)) [])=
   some (.t [.d (.i .u64 ((xA (k*2^52+q)).1:Nat)),.d (.b (xA (k*2^52+q)).2)],[]):=by
 have o1:rk prog aK (.call 101 [vu 1] [])=_:=yn 1 (by decide);have hp:=QD q k hq hk h;have hm:q%18446744073709551616=q:=abF (by omega);rw[Hu];unfold ek at hqn
 cases bb with
 |true=>
  rw[aaR (hbb.1 rfl)]at hqn;have ha:=ox (nb (A / B)) (nb 1) (A / B) 1 hA Cp;rw[hqn]at ha;have hl:=tv (nb q) q;rw[hm]at hl;rw[bQ,eR o1,eR ha,gF hl,Ko hp,aG]
 |false=>
  rw[aaN (λ h=>absurd (hbb.2 h) (by decide))]at hqn;have hl:=tv (nb q) q;rw[hm]at hl;rw[hqn,bH,gF hl,Ko hp,aG]
theorem pY(b c:Bool)(x y:Nat)(hx:tX x)(hy:tX y)(hy0:0<y)(k:Nat)(hk:k<=10000)(hlow:k=0\/E*2^(k-1)*y<=2*x*U):
  (rk prog aK (Oi ((k:Int)-1074) b c (ws x) (ws y) [])=some (.t [.d (.i .u64 ((iQ x y).1:Nat)),.d (.b (iQ x y).2)],[])) ∨
  (2^53<=dh x y ((k:Int)-1074)/\E*2^k*y<=2*x*U/\rk prog aK (Oi ((k:Int)-1074) b c (ws x) (ws y) [])=
   rk prog aK (Oi (((k+1:Nat):Int)-1074) b c (ws x) (ws y) [])):=by
 have hwn:i64.wrap (0-((k:Int)-1074))=1074-(k:Int):=bD;have ea:(if (0:Int)>1074-(k:Int)then 0 else 1074-(k:Int))=((1074-k:Nat):Int):=by split<;>omega
 have eb:(if (0:Int)>(k:Int)-1074 then 0 else(k:Int)-1074)=((k-1074:Nat):Int):=by split<;>omega
 obtain⟨fx,-,-⟩:=hx.mul_fits (k:=1074-k) (by omega);obtain⟨fy,-,fy2⟩:=hy.mul_fits (k:=k-1074) (by omega);have s1:=wB b x (1074-k) hx.fits (by omega);have s2:=wB c y (k-1074) hy.fits (by omega);have hB0:0<y*2^(k-1074):=Nat.mul_pos hy0 (abt (by decide));have hnear:dh x y ((k:Int)-1074)=ek (x*2^(1074-k)) (y*2^(k-1074)):=by
  unfold dh;split
  ·rw[show (-((k:Int)-1074)).toNat=1074-k by omega,show k-1074=0 by omega,Nat.pow_zero,Nat.mul_one]
  ·rw[show ((k:Int)-1074).toNat=k-1074 by omega,show 1074-k=0 by omega,Nat.pow_zero,Nat.mul_one]
 have hw6:i64.wrap ((k:Int)-1074+1)=((k+1:Nat):Int)-1074:=bD;generalize x*2^(1074-k)=A at *;generalize y*2^(k-1074)=B at *;have hd:=Kc (nb A) (nb B) A B fx fy2 hB0;have hdl:A / B<=A:=Nat.div_le_self _ _;have hrl:A%B<B:=abz _ hB0;have fq:Fits (A / B):=fx.le hdl;have fr:Fits (A%B):=fy.le (by omega);have frr:Fits (A%B+A%B):=fy2.le (by omega);have hbq:=pV (nb (A / B)) (A / B) fq;rw[PC,hwn,ea,eb,eR s1,eR s2,Ri hd,gF hbq];have hge:A / B<=ek A B/\ek A B<=A / B+1:=by unfold ek;split<;>omega
 by_cases hbig:bJ (A / B)>53
 ·right;have h53:2^53<=A / B:=by
   rcases abn (A / B) (2^53)with h|h
   ·have:=(du (A / B) 53).2 h;omega
   ·exact h
  have hq:2^53<=dh x y ((k:Int)-1074):=by rw[hnear];omega
  refine⟨hq,rN x y k hy0 hq,?_⟩;rw[bC,hw6,aA]
 ·left;have h53:A / B<2^53:=(du (A / B) 53).1 (by omega);have hq:dh x y ((k:Int)-1074)<=2^53:=by rw[hnear];omega
  obtain⟨hn,h52⟩:=Fa x y k hy0 hq hlow;rw[Qr hy0 hn];generalize dh x y ((k:Int)-1074)=q at *;have ha:=ox (nb (A%B)) (nb (A%B)) (A%B) (A%B) fr fr;have hc:=tn (nb (A%B+A%B)) (nb B) (A%B+A%B) B frr fy;have tail:=Iu k A B q hnear.symm hq (by omega) h52 fq;rw[bB,eR ha,gF hc];unfold gB;by_cases h1:A%B+A%B<B
  ·rw[aaR h1,bB (by decide),bp (by decide),aA]
   exact tail false ⟨λ h=>absurd h (by decide),λ h=>by omega⟩
  ·rw[aaN h1];by_cases h2:B<A%B+A%B
   ·rw[aaR h2,bC (by decide),aA]
    exact tail true ⟨λ _=>by omega,λ _=>rfl⟩
   ·have hb0:rk prog aK (.call 153 [vl (nb (A / B)) (ws (A / B)),vi 0] [])=_:=wz (nb (A / B)) (A / B) 0 (by decide)
    rw[Nat.pow_zero,Nat.div_one]at hb0;rw[aaN h2,bB (by decide),bM rfl,gF hb0,aA];refine tail _ ?_;rw[beq_iff_eq];constructor
    ·intro h;omega
    ·intro h;omega
theorem NH(b c:Bool)(x y:Nat)(hx:tX x)(hy:tX y)(hy0:0<y):rk prog aK (.call 189 [vl b (ws x),vl c (ws y)] [])=some (.t [.d (.i .u64 ((iQ x y).1:Nat)),.d (.b (iQ x y).2)],[]):=by
 rw[f32,ed];by_cases h0:x=0
 ·have hl:(aT x).length=0:=by rw[(fZ x).2 h0];rfl
  rw[hl,bM (show ((0:Nat):Int)=0 from rfl),aG,iQ,aaR h0];rfl
 ·have hl:(aT x).length≠0:=λ e=>h0 ((fZ x).1 (List.length_eq_zero_iff.1 e));have h1:=pV b x hx.fits;have h2:=pV c y hy.fits;have hbx:=hx.bJ;have hby:=hy.bJ;have hw1:i64.wrap (((bJ x:Nat):Int)-((bJ y:Nat):Int))=(bJ x:Int)-bJ y:=bD;have hw3:i64.wrap ((bJ x:Int)-bJ y-53)=(bJ x:Int)-bJ y-53:=bD;have hE:(if -1074>(bJ x:Int)-bJ y-53 then(-1074:Int) else(bJ x:Int)-bJ y-53)=fC x y:=by unfold fC;split<;>omega
  have hE1:-1074<=fC x y:=Int.le_max_right ..;have hE2:fC x y<=4000:=by unfold fC;omega
  obtain⟨k,hk⟩:∃k:Nat,fC x y=(k:Int)-1074:=⟨(fC x y+1074).toNat,by omega⟩
  have h3:=Rz x y h0 hy0;rw[bp,gF h1,gF h2,hw1,hw3,hE,aA,hk];rw[hk,show (k:Int)-1074+2=((k+2:Nat):Int)-1074 by omega]at h3;have hlow:k=0\/E*2^(k-1)*y<=2*x*U:=by
   rcases Nat.eq_zero_or_pos k with h|h
   ·exact Or.inl h
   ·exact Or.inr (sO x y k h0 h (by unfold fC at hk;omega))
  rcases pY b c x y hx hy hy0 k (by omega) hlow with h|⟨-,l1,h⟩
  ·exact h
  ·rw[h];rcases pY b c x y hx hy hy0 (k+1) (by omega) (Or.inr l1)with h|⟨-,l2,h⟩
   ·exact h
   ·rw[h];rcases pY b c x y hx hy hy0 (k+1+1) (by omega) (Or.inr l2)with h|⟨l3,-,h⟩
    ·exact h
    ·exfalso;rw[show k+1+1=k+2 from rfl]at l3;omega
section
variable {f : Task → Option Out}
theorem vD(v:Nat)(a b:aE):om v (a++b)=om (om v a) b:=by simp[om,List.foldl_append]
theorem mq(a b:aE):dq (a++b)=dq a*10^b.length+dq b:=by rw[dq,vD,JP];rfl
theorem CU(m:Int)(x:Nat):rV m x=(x*10^m.toNat,10^(-m).toNat):=by
 unfold rV;split
 ·rename_i h;rw[show (-m).toNat=0 by omega]
 ·rename_i h;rw[show m.toNat=0 by omega,Nat.pow_zero,Nat.mul_one]
theorem X0{t:Task}{k j:IntKind}{n m:Int}{b:Bool}{e e' e'':V}{K:Int->Bool->Int->Tr}(h:f t=some (.t [.d (.i k n),.d (.b b),.d (.i j m)],[])):
  aD f (.call t λ o=>aO o.snd.isEmpty (dI o.fst λ l=>aO (l.length==3) (bG (l.getD 0 e) λ d=>cf k d λ x=>bG (l.getD 1 e') λ d'=>jz d' λ y=>bG (l.getD 2 e'') λ d''=>cf j d'' λ z=>K x y z)))=aD f (K n b m):=by
 rw[cr h];show aD f (cf k (.i k n) λ x=>jz (.b b) λ y=>cf j (.i j m) λ z=>K x y z)=_;rw[bO,aaR rfl,wP,bO,aaR rfl]
end
def sq(v:Nat)(d:aE):Nat:=d.foldl (λ a c=>min (a*10+dS c) 100000) v
theorem Jj:∀(d:aE) (v u:Nat),v=min u 100000->sq v d=min (om u d) 100000
 | [],v,u,h=>h
 |c::d,v,u,h=>Jj d (min (v*10+dS c) 100000) (u*10+dS c) (by omega)
def gN(s:aE):Int×Bool×Int:=
 match s with
 | []=>(0,false,0)
 |c::r=>if c≠101/\c≠69 then(0,false,2)
  else if (dz r).2=[] then(0,false,2)
  else if (dz r).2.all aP=true then((if (dz r).1=true then -(sq 0 (dz r).2:Int) else(sq 0 (dz r).2:Int)),decide (400<sq 0 (dz r).2),0)
  else(0,false,2)
def o3(x:Int×Bool×Int):Option Out:=some (.t [.d (.i .i64 x.1),.d (.b x.2.1),.d (.i .i64 x.2.2)],[])
theorem xm(m:Bool):∀(r p:aE) (v:Nat),(p++r).length<=1000000->v<=100000->
  rk prog aK (SQ (p++r) (v:Int) (p.length:Int) m [])=
   o3 (if r.all aP=true then((if m=true then -(sq v r:Int) else(sq v r:Int)),decide (400<sq v r),0) else(0,false,2))
 | [],p,v,hl,hv=>by
  have hw:i64.wrap (0-(v:Int)) = -(v:Int):=bD;have hd:decide ((v:Int)>400)=decide (400<v):=by
   by_cases h:400<v
   ·rw[aa3 h,aa3 (by omega)]
   ·rw[abf h,abf (by omega)]
  rw[abo,xr,bB,aaR (by rfl)]
  cases m with
  |true=>rw[bQ,aG,hw,hd];rfl
  |false=>rw[bH,aG,hd];rfl
 |c::r,p,v,hl,hv=>by
  have hi:p.length<(p++c::r).length:=by simp
  have g:bW (p++c::r) (p.length:Int)=some c:=by rw[ct];simp
  have hpl:(p++[c]).length=p.length+1:=by simp
  have hlen:p.length+(r.length+1)<=1000000:=by simpa using hl
  have bad:aP c=false->o3 (if (c::r).all aP=true then((if m=true then -(sq v (c::r):Int) else(sq v (c::r):Int)),decide (400<sq v (c::r)),0) else(0,false,2))=o3 (0,false,2):=by intro h;rw[List.all_cons,h];rfl
  rw[xr,bC,bz g];by_cases h1:c.toNat<48
  ·have hd:aP c=false:=by simp[aP];omega
   rw[bC,aA,sF,bQ,aG,bad hd];rfl
  ·rw[bB,bz g,aA,sF];by_cases h2:c.toNat<=57
   ·have hd:aP c=true:=by simp[aP];omega
    have hlt:=wc hd;rw[show decide ((c.toNat:Int)>57)=false from abf (by omega),bH,bz g,IZ hd];have w1:i64.wrap ((v:Int)*10)=((v*10:Nat):Int):=bD;have w2:i64.wrap ((dS c:Nat):Int)=((dS c:Nat):Int):=bD;have w3:i64.wrap (((v*10:Nat):Int)+((dS c:Nat):Int))=((v*10+dS c:Nat):Int):=bD;have w4:(if (100000:Int)<((v*10+dS c:Nat):Int)then 100000 else((v*10+dS c:Nat):Int))=((min (v*10+dS c) 100000:Nat):Int):=by split<;>omega
    have w5:i64.wrap ((p.length:Int)+1)=(((p++[c]).length:Nat):Int):=by rw[hpl,wrap_i64]<;>omega
    have ih:=xm m r (p++[c]) (min (v*10+dS c) 100000) (by simpa using hl) (by omega);rw[abg,List.singleton_append]at ih;rw[w1,w2,w3,w4,w5,aA,ih,List.all_cons,hd];rfl
   ·have hd:aP c=false:=by simp[aP];omega
    rw[show decide ((c.toNat:Int)>57)=true from aa3 (by omega),bQ,aG,bad hd];rfl
theorem Hj(s:aE)(hs:s.length<=1000000):rk prog aK (.call 188 [vs s] [])=o3 (gN s):=by
  rw[f27]
  cases s with
  |nil=>rw[bM (show (([]:aE).length:Int)=0 from rfl),aG];rfl
  |cons c r=>
    have hl:r.length<=1000000:=by simp at hs;omega
    have g:bW (c::r) 0=some c:=rfl;have tl:List.take ((c::r).length-1) (List.drop 1 (c::r))=r:=by simp
    have hle:((0:Int)<=1/\(1:Int)<=(((c::r).length:Nat):Int)):=⟨by decide,by rw[aaT];omega⟩
    have hne:(((c::r).length:Nat):Int)≠0:=by rw[aaT];omega
    have main:¬(c≠101/\c≠69)->rk prog aK (LJ (c::r) false [])=o3 (gN (c::r)):=by
      intro hc;unfold gN;simp only[aaN hc];rw[Ee,bH,aN hle,tl]
      cases r with
      |nil=>
        rw[bB (by decide),aA,uk,bH,bM (show (([]:aE).length:Int)=0 from rfl),aG];rfl
      |cons d q=>
        have g2:bW (d::q) 0=some d:=rfl;have tl2:List.take ((d::q).length-1) (List.drop 1 (d::q))=q:=by simp
        have hle2:((0:Int)<=1/\(1:Int)<=(((d::q).length:Nat):Int)):=⟨by decide,by rw[aaT];omega⟩
        have hl2:q.length<=1000000:=by simp at hl;omega
        have signed:d=43\/d=45->rk prog aK (SX (d::q) false true [])=
            o3 (if (dz (d::q)).2=[] then(0,false,2)
    else if (dz (d::q)).2.all aP=true then((if (dz (d::q)).1=true then -(sq 0 (dz (d::q)).2:Int) else(sq 0 (dz (d::q)).2:Int)),decide (400<sq 0 (dz (d::q)).2),0)
    else(0,false,2)):=by
          intro hd;have hsg:dz (d::q)=(decide (d=45),q):=by rcases hd with rfl|rfl<;>rfl
          rw[hsg,uk,bQ,bz g2,aN hle2,tl2,Gu];by_cases hq:q=[]
          · subst hq
            rw[bM (show (([]:aE).length:Int)=0 from rfl),aG];rfl
          · have hq0:((q.length:Nat):Int)≠0:=by have:=abR.2 hq;omega
            have hL:=xm (decide (d=45)) q [] 0 (by simpa using hl2) (by decide);rw[List.nil_append]at hL;rw[bp hq0,aA,aaN hq];exact hL
        rw[bC (by rw[aaT];omega),bz g2,WB];by_cases h43:d=43
        · rw [bC h43, aA]
          exact signed (Or.inl h43)
        · rw [bB h43, bz g2, Gu, aA]
          by_cases h45:d=45
          · rw [aa3 h45]
            exact signed (Or.inr h45)
          · have hsg : dz (d :: q) = (false, d :: q) := by simp [dz, h43, h45]
            have hL:=xm false (d::q) [] 0 (by simpa using hl) (by decide);rw[List.nil_append]at hL;rw[abf h45,hsg,uk,bH,bp (by rw[aaT];omega),aA,aaN (by simp)];exact hL
    rw[bp hne,bz g,Yf];by_cases h1:c=101
    · rw [bB (by simpa using h1), aA]
      exact main (by simp[h1])
    · rw [bC h1, bz g, ZG, aA]
      by_cases h2:c=69
      · rw [abf (by simpa using h2)]
        exact main (by simp[h2])
      · rw [aa3 h2, Ee, bQ, aG]
        simp[gN,h1,h2,o3]
def dv(l:aE):List D:=ints .u8 (l.map λ c=>((dS c:Nat):Int))
theorem nS(l:aE):(dv l).length=l.length:=by simp[dv]
theorem T3(l:aE)(c:UInt8):dv l++[D.i .u8 ((dS c:Nat):Int)]=dv (l++[c]):=by simp[dv,ints]
def Kg(s:aE)(sg:Nat)(b:Bool)(acc:aE)(pt:Bool)(af:Nat):Task:=
 SE s (sg:Int) (af:Int) b pt (dv acc) []
def Wm(s:aE)(sg:Nat)(b:Bool)(acc:aE)(pt:Bool)(af:Nat)(go:Bool):Task:=
 Wt s (sg:Int) (af:Int) b pt go (dv acc) []
theorem FX(sg:Nat)(b:Bool)(acc:aE)(pt:Bool)(af:Nat):rk prog aK (Kg [] sg b acc pt af)=rk prog aK (Wm [] sg b acc pt af false):=by unfold Kg Wm;rw[qt,bB (by decide),aA]
theorem tB(c:UInt8)(r:aE):List.take ((c::r).length-1) (List.drop 1 (c::r))=r:=by simp
theorem wD(c:UInt8)(r:aE):((0:Int)<=1/\(1:Int)<=(((c::r).length:Nat):Int)):=⟨by decide,by rw[aaT];omega⟩
theorem FW(c:UInt8)(r:aE)(hc:aP c=true)(sg:Nat)(b:Bool)(acc:aE)(pt:Bool)(af:Nat)(ha:acc.length<=1000000)(haf:af<=1000000):
  rk prog aK (Kg (c::r) sg b acc pt af)=rk prog aK (Kg r sg false (acc++[c]) pt (if pt=true then af+1 else af)):=by
 have h:=(iD c).1 hc;have g:bW (c::r) 0=some c:=rfl;have h46:(c.toNat:Int)≠46:=by omega
 have hw:=ca af;have hh:bA 1 (dv acc)=true:=fw _ _;unfold Kg;rw[qt,bC (by rw[aaT];omega),bz g,bC,bz g,bC,aA,rD,bQ,bz g,bp h46,bz g,hh,aQ,Bool.or_true,aQ,aN (by rw[nS];omega),IZ hc,T3,Bool.and_false]
 cases pt with
 |true=>rw[bQ,hw,aA,rE,aN (wD c r),tB,aA,aaR rfl]
 |false=>rw[bH,aA,rE,aN (wD c r),tB,aA,aaN (by decide)]
theorem Q4(r:aE)(sg:Nat)(b:Bool)(acc:aE)(af:Nat):
  rk prog aK (Kg (46::r) sg b acc false af)=rk prog aK (Kg r sg b acc true af):=by
 have g:bW ((46:UInt8)::r) 0=some 46:=rfl;unfold Kg;rw[qt,bC (by rw[aaT];omega),bz g,bB (by decide),bz g,bM (by rfl),aA,rD,kX,bz g,bM (by rfl),aA,rE,aN (wD 46 r),tB,aA]
theorem By(c:UInt8)(r:aE)(hc:aP c=false)(sg:Nat)(b:Bool)(acc:aE)(pt:Bool)(af:Nat)(hp:c=46->pt=true):
  rk prog aK (Kg (c::r) sg b acc pt af)=rk prog aK (Wm (c::r) sg b acc pt af false):=by
 have h:=mt (iD c).2 (by rw[hc];decide);have g:bW (c::r) 0=some c:=rfl;unfold Kg Wm;rw[qt,bC (by rw[aaT];omega),bz g];have fin:aD (rk prog aK) (aV ((c.toNat:Int)==46)
   (aR (RN (V.d (D.b !pt)) (c::r) (sg:Int) (af:Int) b pt (dv acc) []))
   (aR (Wt (c::r) (sg:Int) (af:Int) b pt false (dv acc) [])))=
   rk prog aK (Wt (c::r) (sg:Int) (af:Int) b pt false (dv acc) []):=by
  rw[ZF];by_cases hd:c=46
  ·rw[bC hd,aA,hp hd];rfl
  ·rw[bB hd,aA]
 by_cases h1:c.toNat<48
 ·rw[bB,bz g];exact fin
 ·rw[bC,bz g,bB,bz g];exact fin
theorem yy(sg:Nat):∀(r:aE) (b:Bool) (acc:aE) (af:Nat),acc.length+r.length<=4000->af+r.length<=4000->
  ∃b',rk prog aK (Kg r sg b acc true af)=rk prog aK (Wm (r.dropWhile aP) sg b' (acc++r.takeWhile aP) true (af+(r.takeWhile aP).length) false)
 | [],b,acc,af,_,_=>⟨b,by rw[FX];simp⟩
 |c::r,b,acc,af,h1,h2=>by
  rw[aaT]at h1 h2;by_cases hc:aP c=true
  ·obtain⟨b',hb⟩:=yy sg r false (acc++[c]) (af+1) (by simp;omega) (by omega)
   refine⟨b',?_⟩;rw[FW c r hc sg b acc true af (by omega) (by omega),aaR rfl,hb,List.dropWhile_cons,List.takeWhile_cons,hc,aaR rfl,aaR rfl,abg,List.singleton_append,aaT,show af+1+(r.takeWhile aP).length=af+((r.takeWhile aP).length+1) by omega]
  ·have hc':aP c=false:=by simpa using hc
   refine⟨b,?_⟩;rw[By c r hc' sg b acc true af (λ _=>rfl),List.dropWhile_cons,List.takeWhile_cons,hc',aaN (by decide),aaN (by decide),abo];rfl
def gk(s:aE):aE×aE×Bool×aE:=
 match s.dropWhile aP with
 | []=>([],s.takeWhile aP,false,[])
 |c::r=>if c=46 then(r.dropWhile aP,s.takeWhile aP,true,r.takeWhile aP) else(c::r,s.takeWhile aP,false,[])
theorem FV(sg:Nat):∀(r:aE) (b:Bool) (acc:aE),acc.length+r.length<=4000->
  ∃b',rk prog aK (Kg r sg b acc false 0)=rk prog aK (Wm (gk r).1 sg b' (acc++(gk r).2.1++(gk r).2.2.2) (gk r).2.2.1 (gk r).2.2.2.length false)
 | [],b,acc,_=>⟨b,by rw[FX];simp[gk]⟩
 |c::r,b,acc,h1=>by
  rw[aaT]at h1;by_cases hc:aP c=true
  ·obtain⟨b',hb⟩:=FV sg r false (acc++[c]) (by simp;omega)
   refine⟨b',?_⟩;have e:gk (c::r)=((gk r).1,c::(gk r).2.1,(gk r).2.2.1,(gk r).2.2.2):=by
    unfold gk;rw[List.dropWhile_cons,List.takeWhile_cons,hc,aaR rfl,aaR rfl];split
    ·rfl
    ·split<;>rfl
   rw[FW c r hc sg b acc false 0 (by omega) (by omega),aaN (by decide),hb,e];simp
  ·have hc':aP c=false:=by simpa using hc
   by_cases hd:c=46
   ·subst hd;obtain⟨b',hb⟩:=yy sg r b acc 0 (by omega) (by omega);refine⟨b',?_⟩;have e:gk (46::r)=(r.dropWhile aP,[],true,r.takeWhile aP):=by unfold gk;rw[List.dropWhile_cons,List.takeWhile_cons,hc',aaN (by decide),aaN (by decide)];simp
    rw[Q4,hb,e];simp
   ·refine⟨b,?_⟩;have e:gk (c::r)=(c::r,[],false,[]):=by unfold gk;rw[List.dropWhile_cons,List.takeWhile_cons,hc',aaN (by decide),aaN (by decide)];simp[hd]
    rw[By c r hc' sg b acc false 0 (λ h=>absurd h hd),e];simp
def Yx(sg:Nat)(b:Bool)(ds:aE)(af:Nat)(ex:Int)(bx:Bool)(x i:Nat)(fl:List (Nat×Nat)):Task:=
 Task.at_ 150 0 (aJ 45055) (sv 133 [(4,vu (sg:Int)),(5,vl b (dv ds)),(7,vi (af:Int)),(8,vi ex),(11,vl bx (ws x)),(12,vi (i:Int))]) fl []
def Kj(neg:Bool):Nat:=if neg=true then 9223372036854775808 else 0
def Fh(neg:Bool)(x:Nat)(m:Int):Nat×Int:=
 if (iQ (rV m x).1 (rV m x).2).2=false then(0,5) else(tD neg (iQ (rV m x).1 (rV m x).2).1,0)
def o2(x:Nat×Int):Option Out:=some (.t [.d (.i .u64 (x.1:Nat)),.d (.i .i64 x.2)],[])
theorem Zr(neg:Bool){v:Nat}(h:v<2^63):u64.wrap (((BitVec.ofInt u64.bits ((Kj neg:Nat):Int) ||| BitVec.ofInt u64.bits (v:Int)).toNat:Nat):Int)=((tD neg v:Nat):Int):=by
 cases neg with
 |true=>
  have:=(Kk h).1;rw[show (BitVec.ofInt u64.bits ((Kj true:Nat):Int) ||| BitVec.ofInt u64.bits (v:Int))=(BitVec.ofInt u64.bits (v:Int) ||| BitVec.ofInt u64.bits 9223372036854775808)from BitVec.or_comm ..];exact this
 |false=>
  have:=mK (a:=0) (b:=v) (by decide) (by omega);rw[Nat.zero_or]at this;have e:(BitVec.ofInt u64.bits ((Kj false:Nat):Int) ||| BitVec.ofInt u64.bits (v:Int)).toNat=v:=this;rw[e,aY];show (v:Int)%_=(v:Int);omega
theorem Xy(neg:Bool)(b c:Bool)(p q:Nat)(hp:tX p)(hq:tX q)(hq0:0<q)(fl:List (Nat×Nat))(hfl:fl=[]\/fl=[(11,1)]):
  rk prog aK (.at_ 150 0 (aJ 131071) (sv 133 [(4,vu ((Kj neg:Nat):Int)),(11,vl b (ws p)),(13,vl c (ws q))]) fl [])=
   o2 (if (iQ p q).2=false then(0,5) else(tD neg (iQ p q).1,0)):=by
 have h:=NH b c p q hp hq hq0;have hlt:=OX p q hq0;have hor:=Zr neg hlt;rcases hfl with rfl|rfl
 ·rw[Ck,Ko h,hor]
  cases (iQ p q).2 with
  |true=>rw[mr,aG];rfl
  |false=>rw[kX,aG];rfl
 ·rw[xp,Ko h,hor]
  cases (iQ p q).2 with
  |true=>rw[mr,aG];rfl
  |false=>rw[kX,aG];rfl
theorem Q1(neg:Bool)(b:Bool)(ds:aE)(af:Nat)(ex:Int)(bx:Bool)(x i:Nat)(fl:List (Nat×Nat))(hfl:fl=[(11,1),(5,1)]\/fl=[(5,1)])(hi:i=ds.length)(hx:x<10^60)(hm1:-500<=ex-af)(hm2:ex-af<=500)(haf:af<=1000):
  rk prog aK (Yx (Kj neg) b ds af ex bx x i fl)=o2 (Fh neg x (ex-af)):=by
 have hmx:tX x:=hO (Nat.lt_trans hx (fH (n:=60) (by decide)));have w1:i64.wrap (ex-(af:Int))=ex-(af:Int):=bD;unfold Fh;rw[CU];obtain⟨m,hm⟩:∃m:Int,m=ex-(af:Int):=⟨_,rfl⟩
 rw[<-hm]at hm1 hm2 w1⊢;have m1:tX (x*10^m.toNat):=by have:=(QO (m:=m) hx hm1 hm2).1;rw[CU]at this;exact this
 have m2:tX (10^(-m).toNat):=hO (fH (by omega));have p2:0<10^(-m).toNat:=abt (by decide);have fin:∀X:Option Out,(∀(b1 b2:Bool) (fl':List (Nat×Nat)),fl'=[]\/fl'=[(11,1)]->rk prog aK (.at_ 150 0 (aJ 131071) (sv 133 [(4,vu ((Kj neg:Nat):Int)),(11,vl b1 (ws (x*10^m.toNat))),(13,vl b2 (ws (10^(-m).toNat)))]) fl' [])=X)->rk prog aK (Yx (Kj neg) b ds af ex bx x i fl)=X:=by
  intro X hX;unfold Yx;by_cases h:m ≥ 0
  ·have ht:=qB m.toNat (by omega)
   rw[show ((m.toNat:Nat):Int)=m by omega]at ht;have hmul:=oC bx (tb m.toNat) x (10^m.toNat) hmx.fits (hO (fH (by omega))).fits;have h1:=hX (nb (x*10^m.toNat)) true [] (Or.inl rfl);rw[show (-m).toNat=0 by omega,Nat.pow_zero,Dk]at h1;rcases hfl with rfl|rfl
   ·rw[pq,nS,bB,<-hm,w1,bC h,eR ht,eR hmul,aA];exact h1
   ·rw[mJ,nS,bB,<-hm,w1,bC h,eR ht,eR hmul,aA];exact h1
  ·have ht:=qB (-m).toNat (by omega)
   have w2:i64.wrap (0-m)=(((-m).toNat:Nat):Int):=bD;have h1:=hX bx (tb (-m).toNat) [(11,1)] (Or.inr rfl);have h2:=hX bx (tb (-m).toNat) [] (Or.inl rfl);rw[show m.toNat=0 by omega,Nat.pow_zero,Nat.mul_one]at h1 h2;rcases hfl with rfl|rfl
   ·rw[pq,nS,bB,<-hm,w1,bB h,w2,eR ht,aA];exact h1
   ·rw[mJ,nS,bB,<-hm,w1,bB h,w2,eR ht,aA];exact h2
 exact fin _ λ b1 b2 fl' hfl'=>Xy neg b1 b2 _ _ m1 m2 p2 fl' hfl'
theorem JT(neg:Bool)(b:Bool)(ds:aE)(hds:∀c∈ds,aP c=true)(hdl:ds.length<=60)(af:Nat)(ex:Int)(hm1:-500<=ex-af)(hm2:ex-af<=500)(haf:af<=1000):∀(d i:Nat) (bx:Bool) (fl:List (Nat×Nat)),i+d=ds.length->(fl=[(11,1),(5,1)]\/fl=[(5,1)])->
  rk prog aK (Yx (Kj neg) b ds af ex bx (dq (ds.take i)) i fl)=o2 (Fh neg (dq ds) (ex-af))
 |0,i,bx,fl,hi,hfl=>by
  have h1:ds.take i=ds:=abS (by omega);rw[h1];exact Q1 neg b ds af ex bx (dq ds) i fl hfl (by omega) (abL (JO ds hds) (abM (by decide) hdl)) hm1 hm2 haf
 |d+1,i,bx,fl,hi,hfl=>by
  have hil:i<ds.length:=by omega
  have hc:aP ds[i]=true:=hds _ (List.getElem_mem hil);have hlt:=wc hc;have hx:dq (ds.take i)<10^60:=abL (JO _ λ c h=>hds c (List.mem_of_mem_take h)) (abM (by decide) (by rw[List.length_take];omega));have hstep:dq (ds.take (i+1))=dq (ds.take i)*10+dS ds[i]:=by rw[List.take_add_one,abl hil,Option.toList_some,mq];have h1:dq [ds[i]]=0*10+dS ds[i]:=rfl;rw[h1,Nat.zero_mul,abv];rfl
  have ih:=JT neg b ds hds hdl af ex hm1 hm2 haf d (i+1) (nb (dq (ds.take (i+1)))) [(5,1)] (by omega) (Or.inr rfl);have hgd:(dv ds)[i]?=some (D.i .u8 ((dS ds[i]:Nat):Int)):=by unfold dv;rw[eW,List.getElem?_map,abl hil];rfl
  have hgI:bW (dv ds) (i:Int)=some (D.i .u8 ((dS ds[i]:Nat):Int)):=by rw[ct,hgd]
  have fx:∀k,k<10^61->Fits k:=λ k hk=>(hO (Nat.lt_trans hk (fH (n:=61) (by decide)))).fits;have hm:rk prog aK (.call 105 [vl bx (ws (dq (ds.take i))),vl true [D.i u32 10]] [])=some (.d (.l (nb (dq (ds.take i)*10)) (ws (dq (ds.take i)*10))),[]):=by have:=oC bx true (dq (ds.take i)) 10 (fx _ (by omega)) (fx _ (by omega));rw[show ws 10=[D.i u32 10] by rw[ws,fL (by decide),show 10 / W=0 by decide,bZ];rfl]at this;exact this
  have hw:u64.wrap ((dS ds[i]:Nat):Int)=((dS ds[i]:Nat):Int):=by rw[aY];omega
  have ho:=yn (dS ds[i]) (by omega);have ha:=ox (nb (dq (ds.take i)*10)) (nb (dS ds[i])) (dq (ds.take i)*10) (dS ds[i]) (fx _ (by omega)) (fx _ (by omega));have hw2:=ca i;rw[<-hstep]at ha;rw[<-ih];unfold Yx;rcases hfl with rfl|rfl
  ·rw[pq,nS,bC,eR hm,bz hgI,nE,aQ,abe,bz hgd,bz (mY _ _),cT,hw,eR ho,eR ha,hw2,aA]
  ·rw[mJ,nS,bC,eR hm,bz hgI,nE,aQ,abe,bz hgd,bz (mY _ _),cT,hw,eR ho,eR ha,hw2,aA]
theorem TK{a b:aE}(ha:∀c∈a,aP c=true)(hb:∀c∈b,aP c=true):∀c∈a++b,aP c=true:=λ c hc=>(List.mem_append.1 hc).elim (ha c) (hb c)
theorem yM(w t:aE)(hw:∀c∈w,aP c=true)(ht:t.takeWhile aP=[]):(w++t).takeWhile aP=w:=by
 induction w with
 |nil=>exact ht
 |cons c w ih=>
  rw[List.cons_append,List.takeWhile_cons,hw c (by simp),aaR rfl,ih λ c h=>hw c (by simp[h])]
theorem Jr(w t:aE)(hw:∀c∈w,aP c=true)(ht:t.dropWhile aP=t):(w++t).dropWhile aP=t:=by
 induction w with
 |nil=>exact ht
 |cons c w ih=>
  rw[List.cons_append,List.dropWhile_cons,hw c (by simp),aaR rfl,ih λ c h=>hw c (by simp[h])]
def UQ(s:aE):Nat×Int:=
 let n:=(dz s).1
 let q:=gk (dz s).2
 if q.2.1++q.2.2.2=[]\/(q.2.2.1=true/\q.2.2.2=[]) then(0,2)
 else if (gN q.1).2.2≠0 then(0,(gN q.1).2.2)
 else if 60<(q.2.1++q.2.2.2).length then(0,4)
 else if (gN q.1).2.1=true then(0,5)
 else Fh n (dq (q.2.1++q.2.2.2)) ((gN q.1).1-(q.2.2.2.length:Int))
theorem T8(s:aE)(h:(gN s).2.1=false):-400<=(gN s).1/\(gN s).1<=400:=by
 unfold gN at h⊢;split
 ·exact⟨by decide,by decide⟩
 ·rename_i c r;simp only at h⊢;split
  ·exact⟨by decide,by decide⟩
  ·rename_i h1;rw[aaN h1]at h;split
   ·exact⟨by decide,by decide⟩
   ·rename_i h2;rw[aaN h2]at h;split
    ·rename_i h3;rw[aaR h3]at h;have:=of_decide_eq_false h;simp only;split<;>omega
    ·exact⟨by decide,by decide⟩
theorem NK(s:aE):(∀c∈(gk s).2.1++(gk s).2.2.2,aP c=true)/\(gk s).1.length<=s.length/\(gk s).2.2.2.length<=s.length/\((gk s).2.1++(gk s).2.2.2).length<=s.length:=by
 have h1:=yN s;have hl:(s.takeWhile aP).length+(s.dropWhile aP).length=s.length:=by
  have:=congrArg List.length (List.takeWhile_append_dropWhile (p:=aP) (l:=s))
  rwa[aaS]at this
 unfold gk;split
 ·rename_i e;rw[e]at hl;refine⟨by simpa using h1,by simp,by simp,by simp only[abo];simp at hl;omega⟩
 ·rename_i c r e;rw[e,aaT]at hl;have hr:(r.takeWhile aP).length+(r.dropWhile aP).length=r.length:=by
   have:=congrArg List.length (List.takeWhile_append_dropWhile (p:=aP) (l:=r))
   rwa[aaS]at this
  split
  ·exact⟨TK h1 (yN r),by simp only;omega,by simp only;omega,by simp only[aaS];omega⟩
  ·refine⟨by simpa using h1,by simp only[aaT];omega,by simp,by simp only[abo];omega⟩
theorem QS(neg:Bool)(t:aE)(b:Bool)(ds:aE)(hds:∀c∈ds,aP c=true)(pt:Bool)(af:Nat)(ht:t.length<=4000)(haf:af<=ds.length)(hdl:ds.length<=4000):
  rk prog aK (Wm t (Kj neg) b ds pt af false)=o2 (if ds=[]\/(pt=true/\af=0) then(0,2)
   else if (gN t).2.2≠0 then(0,(gN t).2.2)else if 60<ds.length then(0,4)else if (gN t).2.1=true then(0,5)else Fh neg (dq ds) ((gN t).1-(af:Int))):=by
 have he:=Hj t (by omega);have rest:∀bad:Bool,rk prog aK (.at_ 150 0 (aJ 447)
   (sv 133 [(0,vs t),(4,vu ((Kj neg:Nat):Int)),(5,vl b (dv ds)),(7,vi (af:Int)),(79,vb bad)]) [(5,1)] [])=
   o2 (if bad=true then(0,2)else if (gN t).2.2≠0 then(0,(gN t).2.2)else if 60<ds.length then(0,4)else if (gN t).2.1=true then(0,5)else Fh neg (dq ds) ((gN t).1-(af:Int))):=by
  intro bad;rw[MF]
  cases bad with
  |true=>rw[bQ,aG,aaR rfl];rfl
  |false=>
   rw[bH,X0 he,aaN (by decide)];by_cases h1:(gN t).2.2≠0
   ·rw[fj h1,aG,aaR h1];rfl
   ·have h1':(gN t).2.2=0:=by omega
    rw[eN h1',aaN h1,nS];by_cases h2:60<ds.length
    ·rw[bC,aG,aaR h2];rfl
    ·rw[bB,aaN h2]
     cases h3:(gN t).2.1 with
     |true=>rw[bQ,aG,aaR rfl];rfl
     |false=>
      have hle:=T8 t h3;have hN:=JT neg b ds hds (by omega) af (gN t).1 (by omega) (by omega) (by omega) ds.length 0 true [(11,1),(5,1)] (by omega) (Or.inl rfl);rw[List.take_zero,show dq []=0 from rfl]at hN;unfold Yx at hN;rw[wK,Int.natCast_zero]at hN;rw[bH,aA,aaN (by decide)];exact hN
 unfold Wm;rw[rD,bH,nS];by_cases h0:ds=[]
 ·have hl0:((ds.length:Nat):Int)=0:=by rw[h0];rfl
  rw[bM hl0,aA,rest true,aaR rfl,aaR (Or.inl h0)]
 ·have hl0:((ds.length:Nat):Int)≠0:=by have:=abR.2 h0;omega
  rw[bp hl0]
  cases pt with
  |false=>rw[bH,aA,rest false,aaN (show ¬(false=true) by decide),aaN (show ¬(ds=[]\/(false=true/\af=0)) by simp[h0])]
  |true=>
   rw[bQ,aA,rest _];by_cases ha:af=0
   ·rw[aaR (by rw[beq_iff_eq];omega),aaR (Or.inr ⟨rfl,ha⟩)]
   ·have hn:¬(ds=[]\/(true=true/\af=0)):=by
     rintro(h|⟨-,h⟩)
     ·exact h0 h
     ·exact ha h
    rw[aaN (show ¬(((af:Int)==0)=true) by rw[beq_iff_eq];omega),aaN hn]
theorem Iw(s:aE)(hs:s.length<=2000):rk prog aK (.call 150 [vs s] [])=o2 (UQ s):=by
 have main:∀(neg:Bool) (u:aE),u.length<=2000->rk prog aK (Kg u (Kj neg) true [] false 0)=o2 (
   let q:=gk u
   if q.2.1++q.2.2.2=[]\/(q.2.2.1=true/\q.2.2.2=[]) then(0,2)
   else if (gN q.1).2.2≠0 then(0,(gN q.1).2.2)
   else if 60<(q.2.1++q.2.2.2).length then(0,4)
   else if (gN q.1).2.1=true then(0,5)
   else Fh neg (dq (q.2.1++q.2.2.2)) ((gN q.1).1-(q.2.2.2.length:Int))):=by
  intro neg u hu;obtain⟨b',hb⟩:=FV (Kj neg) u true [] (by simp;omega);obtain⟨s1,s2,s3,s4⟩:=NK u;rw[hb,List.nil_append,QS neg _ b' _ s1 _ _ (by omega) (by rw[aaS];omega) (by omega)];have e:((gk u).2.2.2.length=0)=((gk u).2.2.2=[]):=propext List.length_eq_zero_iff;simp only[e]
 have sgn:∀(neg:Bool) (c:UInt8) (r:aE),(c::r).length<=2000->rk prog aK (LI (c::r) ((Kj neg:Nat):Int) [])=rk prog aK (Kg r (Kj neg) true [] false 0):=by intro neg c r h;rw[ME,aN (wD c r),tB,aA];rfl
 rw[f14];unfold UQ
 cases s with
 |nil=>
  rw[bB (by decide),aA,xq,bH,aA];exact main false [] (by decide)
 |cons c r=>
  have g:bW (c::r) 0=some c:=rfl;have hr:r.length<=2000:=by simp at hs;omega
  rw[bC (by rw[aaT];omega),bz g,WB];by_cases h43:c=43
  ·rw[bC h43,aA,xq,bQ,bz g,Gu,bB (by rw[h43];decide),aA]
   have e:dz (c::r)=(false,r):=by rw[h43];rfl
   have:=sgn false c r hs;rw[main false r hr]at this;rw[e];exact this
  ·rw[bB h43,bz g,Gu,aA,xq];by_cases h45:c=45
   ·rw[aa3 h45,bQ,bz g,Gu,bC h45,aA];have e:dz (c::r)=(true,r):=by rw[h45];rfl
    have:=sgn true c r hs;rw[main true r hr]at this;rw[e];exact this
   ·rw[abf h45,bH,aA];have e:dz (c::r)=(false,c::r):=by simp[dz,h43,h45]
    rw[e];exact main false (c::r) hs
theorem JQ:∀(d:aE) (v:Nat),v*10^d.length<=om v d:=by intro d v;rw[JP];exact Nat.le_add_right _ _
theorem TN(t:Tx)(hd:∀c∈t.ex,aP c=true):rS t=(if 400<dq t.ex then((rS t).1,false) else((if t.en=true then -(dq t.ex:Int) else(dq t.ex:Int)),true)):=by
 have hz:=x7 t.ex;have hdd:∀c∈t.ex.dropWhile (· == 48),aP c=true:=λ c h=>hd c ((List.dropWhile_sublist _).subset h);by_cases h3:3<(t.ex.dropWhile (· == 48)).length
 ·-- four digits,the first not nought
  have hbig:400<dq t.ex:=by
   rw[<-hz]
   cases he:t.ex.dropWhile (· == 48) with
   |nil=>rw[he]at h3;simp at h3
   |cons c r=>
    have hc48:¬(c==48)=true:=by have:=List.head?_dropWhile_not (λ x:UInt8=>x==48) t.ex;rw[he]at this;simpa using this
    have hc:=hdd c (by rw[he];simp);have h1:1<=dS c:=by have h48:c≠48:=λ e=>hc48 (by rw[e];rfl);have hn:c.toNat≠48:=λ e=>h48 (UInt8.toNat_inj.1 e);have:=(iD c).1 hc;unfold dS;omega
    rw[he,aaT]at h3;have h2:=JQ r (0*10+dS c);have h4:10^3<=10^r.length:=abM (by decide) (by omega);have h5:1*10^r.length<=(0*10+dS c)*10^r.length:=abH _ (by omega);show 400<om (0*10+dS c) r;omega
  rw[aaR hbig];have e:(rS t).2=false:=by unfold rS;rw[aaR h3]
  exact Prod.ext rfl e
 ·unfold rS;rw[aaN h3];simp only[hz];by_cases hb:400<dq t.ex
  ·rw[aaR hb];refine Prod.ext rfl ?_;simp only;cases t.en
   ·simp;omega
   ·simp;omega
  ·rw[aaN hb];refine Prod.ext rfl ?_;simp only;cases t.en
   ·simp;omega
   ·simp;omega
theorem ON{d:aE}(h:d.all aP=true):d.takeWhile aP=d/\d.dropWhile aP=[]:=by rw[abu]at h;have h1:=yM d [] h rfl;have h2:=Jr d [] h rfl;rw[abo]at h1 h2;exact⟨h1,h2⟩
theorem Pq{d:aE}(h:d.dropWhile aP=[]):d.all aP=true:=by have h1:d.takeWhile aP++d.dropWhile aP=d:=List.takeWhile_append_dropWhile;rw[h,abo]at h1;rw[<-h1,abu];exact yN d
theorem T9(n:Bool)(w p t:aE)(h:¬(w=[]/\p=[])):
  ((kE n w p t).2=false/\(gN t).2.2=2) ∨
  ((kE n w p t).2=true/\(gN t).2.2=0/\(((gN t).2.1=true/\(rS (kE n w p t).1).2=false)\/((gN t).2.1=false/\rS (kE n w p t).1=((gN t).1,true)))):=by
 unfold kE;rw[aaN h]
 cases t with
 |nil=>exact Or.inr ⟨rfl,rfl,Or.inr ⟨rfl,rfl⟩⟩
 |cons c r=>
  by_cases h1:c≠101/\c≠69
  ·simp only[gN,aaR h1];exact Or.inl ⟨by trivial,by trivial⟩
  ·simp only[gN,aaN h1];by_cases h2:(dz r).2=[]
   ·rw[aaR h2,h2];exact Or.inl ⟨rfl,rfl⟩
   ·rw[aaN h2];by_cases h3:(dz r).2.all aP=true
    ·obtain⟨e1,e2⟩:=ON h3;rw[aaR h3,e1,e2];refine Or.inr ⟨by simp[h2],rfl,?_⟩;rw[abu]at h3;have hb:=TN ⟨n,w,p,(dz r).1,(dz r).2⟩ h3;have hcap:sq 0 (dz r).2=min (dq (dz r).2) 100000:=Jj _ 0 0 rfl;simp only at hb⊢;rw[hcap];by_cases hbig:400<dq (dz r).2
     ·rw[aaR hbig]at hb;refine Or.inl ⟨aa3 (by omega),?_⟩;rw[hb]
     ·rw[aaN hbig]at hb;refine Or.inr ⟨abf (by omega),?_⟩;rw[hb,show min (dq (dz r).2) 100000=dq (dz r).2 by omega]
    ·rw[aaN h3];refine Or.inl ⟨?_,rfl⟩;have:(dz r).2.dropWhile aP≠[]:=λ e=>h3 (Pq e);simp[this]
theorem UR(s:aE):UQ s=et s:=by
 have key:∀(n:Bool) (w p t:aE),¬(w=[]/\p=[])->
   (if (gN t).2.2≠0 then(0,(gN t).2.2)else if 60<(w++p).length then(0,4)else if (gN t).2.1=true then(0,5)else Fh n (dq (w++p)) ((gN t).1-(p.length:Int)))=
   (if (kE n w p t).2=false then(0,2)
    else if 60<(kE n w p t).1.whole.length+(kE n w p t).1.part.length then(0,4)
    else if (rS (kE n w p t).1).2=false then(0,5)
    else
     let r:=rV ((rS (kE n w p t).1).1-(kE n w p t).1.part.length) (dq ((kE n w p t).1.whole++(kE n w p t).1.part))
     if (iQ r.1 r.2).2=false then(0,5) else(tD (kE n w p t).1.neg (iQ r.1 r.2).1,0)):=by
  intro n w p t h;obtain⟨f1,f2⟩:=PL n w p t;have f3:(kE n w p t).1.neg=n:=by
   unfold kE;split
   ·rfl
   ·split
    ·rfl
    ·split<;>rfl
  rw[f1,f2,f3,aaS];rcases T9 n w p t h with⟨h1,h2⟩|⟨h1,h2,h3⟩
  ·rw[aaR h1,h2];rfl
  ·rw[h1,h2,aaN (show ¬((0:Int)≠0) by decide),aaN (show ¬(true=false) by decide)]
   by_cases h60:60<w.length+p.length
   ·rw[aaR h60,aaR h60]
   ·rw[aaN h60,aaN h60];rcases h3 with⟨h3,h4⟩|⟨h3,h4⟩
    ·rw[aaR h3,aaR h4]
    ·rw[h3,h4,aaN (show ¬(false=true) by decide),aaN (show ¬(true=false) by decide)]
     rfl
 have none_:∀(n:Bool) (t:aE),(kE n [] [] t).2=false:=λ n t=>by unfold kE;rw[aaR ⟨rfl,rfl⟩]
 unfold UQ et splitB;simp only;generalize (dz s).1=n;generalize (dz s).2=u;unfold gk
 cases hd:u.dropWhile aP with
 |nil=>
  simp only[abo,Bool.false_eq_true,false_and,or_false];by_cases hw:u.takeWhile aP=[]
  ·rw[aaR hw,hw,aaR (none_ n [])]
  ·rw[aaN hw];have:=key n (u.takeWhile aP) [] [] (λ h=>hw h.1);rw[abo]at this;exact this
 |cons c r=>
  by_cases h46:c=46
  ·simp only[aaR h46];by_cases hp:r.takeWhile aP=[]
   ·rw[aaR (Or.inr ⟨trivial,hp⟩),aaR hp];rfl
   ·have hne:¬(u.takeWhile aP=[]/\r.takeWhile aP=[]):=λ h=>hp h.2;rw[aaN (by rintro(h|⟨-,h⟩);exact hne ⟨(List.append_eq_nil_iff.1 h).1,(List.append_eq_nil_iff.1 h).2⟩;exact hp h),aaN hp];exact key n (u.takeWhile aP) (r.takeWhile aP) (r.dropWhile aP) hne
  ·simp only[aaN h46,abo,Bool.false_eq_true,false_and,or_false];by_cases hw:u.takeWhile aP=[]
   ·rw[aaR hw,hw,aaR (none_ n (c::r))]
   ·rw[aaN hw];have:=key n (u.takeWhile aP) [] (c::r) (λ h=>hw h.1);rw[abo]at this;exact this
section
variable {f : Task → Option Out}
theorem DV{t:Task}{a b c d e:D}{cs:List V}{fl fl':Fl}{m:Nat}{dv:D}{K:List V->List D->Tr}(h:f t=some (.d (.g [a,b,c,d,e]),[.cells cs fl]))(hm:cs.length=m:=by rfl)(hf:(fl==fl')=true)
  (h1:([V.d a,V.d b,V.d c,V.d d,V.d e].all V.one)=true):
  aD f (.call t λ o=>eE o.snd λ x l2=>dA x λ c g=>aO (c.length==m) (aO (g==fl') (iY l2 (bG o.fst λ d=>j5 5 d λ l=>
   aO ([V.d (l.getD 0 dv),V.d (l.getD 1 dv),V.d (l.getD 2 dv),V.d (l.getD 3 dv),V.d (l.getD 4 dv)].all V.one) (K c l)))))=aD f (K cs [a,b,c,d,e]):=by
 rw[cr h];show aD f (aO (cs.length==m) (aO (fl==fl') (aO true (aO ([V.d a,V.d b,V.d c,V.d d,V.d e].all V.one) (K cs [a,b,c,d,e])))))=_;rw[hm,abq,aQ,hf,aQ,aQ,h1,aQ]
end
def oP(s:aE)(i:Nat)(m w:Int)(at_:Nat):Ob:=
 if m≠0 then aX s (i:Int) m (at_:Int)else if Me s i=true then aX s (i:Int) 2 (i:Int)else aX s (i:Int) 0 w
def ij(s:aE)(a:Nat)(w:Int)(r:OJ)(o:Option Out):Prop:=
 match r with
 | .inr (e,w')=>e≠0/\∃(x:Int) (T:Tok),o=some (.d T.D,[aX s x e (w':Int)])
 | .inl (t,n)=>o=some (.d t.D,[aX s ((a+n:Nat):Int) 0 w])
theorem r9(s:aE)(a n:Nat)(w:Int)(T:Tok):ij s a w (rm (s.drop a) n a T) (some (.d T.D,[oP s (a+n) 0 w a])):=by
 have h0:¬((0:Int)≠0):=by decide
 rw[WW];unfold oP;rw[aaN h0]
 cases h:Me s (a+n) with
 |true=>exact⟨by decide,_,_,rfl⟩
 |false=>rfl
theorem lW(s:aE)(a x:Nat)(m w:Int)(hm:m≠0)(T:Tok):ij s a w (.inr (m,a)) (some (.d T.D,[oP s x m w a])):=by unfold oP;rw[aaR hm];exact⟨hm,_,_,rfl⟩
theorem Af(s:aE)(i:Nat)(hi:i<=s.length)(T:Tok)(m w:Int):
  rk prog aK (.call 151 [V.p 0 0,V.d T.D,vi m] [aX s (i:Int) 0 w])=some (.d T.D,[oP s i m w T.at_]):=by
 unfold oP;by_cases hm:m≠0
 ·have hf:=mg s (i:Int) 0 w m (T.at_:Int);rw[aaR hm];unfold Tok.D aX at *;rw[Xc,fj hm,dZ hf (by rfl) (by rfl),aG]
 ·have hm0:m=0:=by omega
  have hf:=mg s (i:Int) 0 w 2 (i:Int);rw[aaN hm];have two:∀b:Bool,rk prog aK (.at_ 151 1 (aJ 61) (sv 55 [(0,V.p 0 0),(4,V.p 1 0),(6,V.p 2 0),(47,vb b)]) []
    [aC (dJ [] 0 0 0 0),
     aC (dJ T.text (T.kind:Int) T.n (T.d:Int) (T.at_:Int)),aX s (i:Int) 0 w])=
    some (.d T.D,[if b=true then aX s (i:Int) 2 (i:Int)else aX s (i:Int) 0 w]):=by
   intro b;unfold Tok.D aX at *;rw[My]
   cases b with
   |true=>rw[bQ,dZ hf (by rfl) (by rfl),aG,aaR rfl]
   |false=>rw[bH,aG,aaN (by decide)]
  have h:=two (Me s i);rw[<-h];unfold Me;rcases abn i s.length with hlt|hge
  ·obtain⟨c,hd,hg⟩:=drop_at hlt;have Hf:((c.toNat:Int)==46)=(c==46):=cY c 46;rw[hd,List.getD_cons_zero];unfold Tok.D aX at *;rw[Xc,eN hm0,bC,bz hg,gJ (Cb c)]
   cases hl:k9 c with
   |true=>rw[bQ,aA];rfl
   |false=>rw[bH,bz hg,aA,Hf];rfl
  ·rw[abJ hge];unfold Tok.D aX at *;rw[Xc,eN hm0,bB,aA];rfl
def oY:aE->Bool
 | []=>false
 |c::r=>(c==46&&(r.isEmpty||r.head?==some 46))||oY r
theorem wR:∀t:aE,oY t=true↔(t.getLast?=some 46\/qU t=true)
 | []=>by simp[oY,qU]
 | [c]=>by simp[oY,qU]
 |c::d::r=>by
  have ih:=wR (d::r);unfold oY qU;rw[Bool.or_eq_true,ih,Bool.or_eq_true,List.getLast?_cons_cons];simp only[List.isEmpty_cons,Bool.false_or];constructor
  ·rintro(h|h|h)
   ·exact Or.inr (Or.inl h)
   ·exact Or.inl h
   ·exact Or.inr (Or.inr h)
  ·rintro(h|h|h)
   ·exact Or.inr (Or.inl h)
   ·exact Or.inl h
   ·exact Or.inr (Or.inr h)
def ez:Ob := .cells (dJ [] 0 0 0 0) []
theorem uB(s t:aE)(ht:t.length<=4000)(a:Nat)(x w:Int):∀(m i:Nat) (e w':Int),i+m=t.length->
  rk prog aK (SC t (a:Int) (i:Int) [ez,aX s x e w'])=
   some (.d (Tok.D ⟨1,t,0,0,a⟩),[aX s x (if oY (t.drop i)=true then 2 else e) (if oY (t.drop i)=true then(a:Int)else w')])
 |0,i,e,w',h=>by
  unfold ez aX Tok.D;rw[ve,bB,aG,abJ (by omega)];rfl
 |m+1,i,e,w',h=>by
  obtain⟨c,hd,hg⟩:=drop_at (show i<t.length by omega);have w1:=ca i;have w2:i64.wrap ((t.length:Int)-1)=((t.length-1:Nat):Int):=bD;have Hf:((c.toNat:Int)==46)=(c==46):=cY c 46;have ih0:=uB s t ht a x w m (i+1) e w' (by omega);have ih1:=uB s t ht a x w m (i+1) 2 (a:Int) (by omega);have hf:=mg s x e w' 2 (a:Int);have step:∀b:Bool,rk prog aK (.at_ 97 1 (aJ 12895)
    (sq2 t (a:Int) (i:Int) b) [] [ez,aX s x e w'])=
    some (.d (Tok.D ⟨1,t,0,0,a⟩),[aX s x (if (b||oY (t.drop (i+1)))=true then 2 else e) (if (b||oY (t.drop (i+1)))=true then(a:Int)else w')]):=by
   intro b
   cases b with
   |false=>
    rw[Bool.false_or,<-ih0];unfold ez aX;rw[qW,bH,w1,aA]
   |true=>
    have:some ((V.d (Tok.D ⟨1,t,0,0,a⟩)),[aX s x 2 (a:Int)])=some ((V.d (Tok.D ⟨1,t,0,0,a⟩)),[aX s x (if oY (t.drop (i+1))=true then 2 else 2) (if oY (t.drop (i+1))=true then(a:Int) else(a:Int))]):=by split<;>rfl
    rw[Bool.true_or,aaR rfl,aaR rfl,this,<-ih1];unfold ez aX at *;rw[qW,bQ,dZ hf (by rfl) (by rfl),w1,aA]
  rw[hd];have hb:oY (c::t.drop (i+1))=((c==46&&((t.drop (i+1)).isEmpty||(t.drop (i+1)).head?==some 46))||oY (t.drop (i+1))):=rfl;rw[hb,<-step];unfold ez aX;rw[ve,bC,bz hg,Hf]
  cases h46:(c==46) with
  |false=>rw[bH,aA];rfl
  |true=>
   rw[bQ,w2];by_cases hlast:i+1=t.length
   ·rw[bM,aA,abJ (by omega)]
    rfl
   ·obtain⟨d,hd2,hg2⟩:=drop_at (show i+1<t.length by omega)
    have e46d:((d.toNat:Int)==46)=(d==46):=cY d 46;have e46o:(some d==some (46:UInt8))=(d==46):=by rw[Bool.eq_iff_iff,beq_iff_eq,beq_iff_eq];exact⟨λ h=>Option.some.inj h,λ h=>by rw[h]⟩
    rw[bp,w1,bz hg2,aA,e46d,hd2];show _=rk prog aK (.at_ 97 1 _ (sq2 t (a:Int) (i:Int) (some d==some 46)) [] _);rw[e46o]
theorem A0(s:aE)(hs:s.length<=10000)(a:Nat)(w:Int):∀(m i:Nat),i+m=s.length->
  rk prog aK (Od (a:Int) [ez,aX s (i:Int) 0 w])=
   rk prog aK (WA (a:Int) false [ez,aX s ((i+((s.drop i).takeWhile fR).length:Nat):Int) 0 w])
 |0,i,h=>by
  unfold ez aX;rw[DX,bB,aA,abJ (by omega)];rfl
 |m+1,i,h=>by
  obtain⟨c,hd,hg⟩:=drop_at (show i<s.length by omega);have ih:=A0 s hs a w m (i+1) (by omega);have w1:=ca i;have Hf:((c.toNat:Int)==46)=(c==46):=cY c 46;have go:rk prog aK (Od (a:Int) [ez,aX s (i:Int) 0 w])=
    rk prog aK (WA (a:Int) (fR c) [ez,aX s (i:Int) 0 w]):=by
   unfold ez aX fR;rw[DX,bC,bz hg,gJ (Cb c)]
   cases hl:k9 c with
   |true=>rw[bQ,aA];rfl
   |false=>
    rw[bH,bz hg,gJ (pd c)]
    cases hd:aP c with
    |true=>rw[bQ,aA];rfl
    |false=>rw[bH,bz hg,aA,Hf];rfl
  rw[go,hd,List.takeWhile_cons]
  cases hn:fR c with
  |false=>rw[aaN (by decide)];rfl
  |true=>
   rw[aaR rfl,aaT,show i+(((s.drop (i+1)).takeWhile fR).length+1)=i+1+((s.drop (i+1)).takeWhile fR).length by omega,<-ih];unfold ez aX;rw[uh,bQ,w1,aA]
theorem T1(s:aE)(hs:s.length<=4000)(a:Nat)(ha:a<=s.length)(w:Int):ij s a w (vB (s.drop a) a) (rk prog aK (.call 97 [V.p 0 0] [aX s (a:Int) 0 w])):=by
 have hL:=A0 s (by omega) a w (s.length-a) a (by omega);have hself:=qD (s.drop a) fR;have hle:=jU (s.drop a) fR;rw[abB]at hle;have go:rk prog aK (.call 97 [V.p 0 0] [aX s (a:Int) 0 w])=rk prog aK (Od (a:Int) [ez,aX s (a:Int) 0 w]):=by unfold ez aX;rw[e97,aA]
 have htk:List.take ((((a+((s.drop a).takeWhile fR).length:Nat):Int)).toNat-(a:Int).toNat) (List.drop (a:Int).toNat s)=(s.drop a).takeWhile fR:=by rw[abe,abe,Nat.add_sub_cancel_left,<-hself]
 rw[go,hL];unfold vB;simp only;generalize (s.drop a).takeWhile fR=t at *;have hf:=mg s ((a+t.length:Nat):Int) 0 w 4 (a:Int);have hD:=uB s t (by omega) a ((a+t.length:Nat):Int) w t.length 0 0 w (by omega);rw[List.drop_zero]at hD;by_cases h1:120<t.length
 ·rw[aaR h1];refine⟨by decide,((a+t.length:Nat):Int),⟨0,[],0,0,0⟩,?_⟩;unfold ez aX at *;rw[uh,bH,aN,aN,htk,bC,dZ hf (by rfl) (by rfl),aG];rfl
 ·rw[aaN h1];have go2:rk prog aK (WA (a:Int) false [ez,aX s ((a+t.length:Nat):Int) 0 w])=
    some (.d (Tok.D ⟨1,t,0,0,a⟩),[aX s ((a+t.length:Nat):Int) (if oY t=true then 2 else 0) (if oY t=true then(a:Int)else w)]):=by
   rw[<-hD];unfold ez aX;rw[uh,bH,aN,aN,htk,bB,aA];rfl
  rw[go2];by_cases h2:t.getLast?=some 46\/qU t=true
  ·rw[aaR h2,(wR t).2 h2];exact⟨by decide,_,_,rfl⟩
  ·rw[aaN h2];have hb:oY t=false:=by
    cases e:oY t with
    |false=>rfl
    |true=>exact absurd ((wR t).1 e) h2
   rw[hb];rfl
theorem aaE(y d:Nat)(hd:d<16)(hy:16*y<18446744073709551616):u64.wrap ((BitVec.ofInt u64.bits ((16*y:Nat):Int) ||| BitVec.ofInt u64.bits ((d:Nat):Int)).toNat:Int)=((16*y+d:Nat):Int):=by
 have h1:2^4*y+d=2^4*y ||| d:=Nat.two_pow_add_eq_or_of_lt (by omega) y
 have e64:u64.bits=64:=rfl;rw[e64,BitVec.toNat_or,BitVec.ofInt_natCast,BitVec.ofInt_natCast,BitVec.toNat_ofNat,BitVec.toNat_ofNat,abF (by omega),abF (by omega),show 16*y=2^4*y by omega,<-h1,aY];omega
def AL(v:Nat)(l:aE):Nat:=l.foldl (λ a c=>a*16%18446744073709551616+fE c) v
theorem vv:∀(l:aE) (k v:Nat),v<16^k->k+l.length<=16->(∀c∈l,ke c=true)->AL v l=l.foldl (λ a c=>a*16+fE c) v
 | [],_,_,_,_,_=>rfl
 |c::l,k,v,hv,hk,hd=>by
  rw[aaT]at hk;have hx:=AM c (hd c (by simp));have h15:16^k<=16^15:=abM (by decide) (by omega);have hv1:v<1152921504606846976:=abL hv (abI h15 (by decide));have hm:v*16%18446744073709551616=v*16:=abF (by omega);have hn:v*16+fE c<16^(k+1):=by rw[abx];omega
  have ih:=vv l (k+1) (v*16+fE c) hn (by omega) (λ c h=>hd c (by simp[h]));show AL (v*16%18446744073709551616+fE c) l=l.foldl (λ a c=>a*16+fE c) (v*16+fE c);rw[hm,ih]
theorem F1(s:aE)(hs:s.length<=10000)(f0 a:Nat)(w:Int):∀(m i v:Nat),i+m=s.length->v<18446744073709551616->
  rk prog aK (.at_ 146 1 (aJ 159) (sq4 (f0:Int) (v:Int)) []
   [aC (dJ [] 2 0 0 (a:Int)),ez,aX s (i:Int) 0 w])=
  rk prog aK (.at_ 146 1 (aJ 1567) (sq1 (f0:Int) ((AL v ((s.drop i).takeWhile ke):Nat):Int) false) []
   [aC (dJ [] 2 0 0 (a:Int)),ez,aX s ((i+((s.drop i).takeWhile ke).length:Nat):Int) 0 w])
 |0,i,v,h,hv=>by
  unfold ez aX;rw[rB,bB,aA,abJ (by omega)];rfl
 |m+1,i,v,h,hv=>by
  obtain⟨c,hd,hg⟩:=drop_at (show i<s.length by omega);have w1:=ca i;have hx:=Pj c;rw[hd,List.takeWhile_cons]
  cases hc:ke c with
  |false=>
   rw[hc]at hx;rw[aaN (by decide)];unfold ez aX;rw[rB,bC,bz hg,gF hx,aA];rfl
  |true=>
   rw[hc,aaR rfl]at hx;have hlt:=AM c hc;have e1:v*16%18446744073709551616=16*(v%1152921504606846976):=by omega
   have ih:=F1 s hs f0 a w m (i+1) (v*16%18446744073709551616+fE c) (by omega) (by omega);have wv:u64.wrap ((v:Int)*16)=((16*(v%1152921504606846976):Nat):Int):=by rw[aY];omega
   have wd:u64.wrap ((fE c:Nat):Int)=((fE c:Nat):Int):=by rw[aY];omega
   have wo:=aaE (v%1152921504606846976) (fE c) hlt (by omega);rw[aaR rfl,aaT,show i+(((s.drop (i+1)).takeWhile ke).length+1)=i+1+((s.drop (i+1)).takeWhile ke).length by omega];show _=rk prog aK (.at_ 146 1 _ (sq1 (f0:Int) ((AL (v*16%18446744073709551616+fE c) ((s.drop (i+1)).takeWhile ke):Nat):Int) false) [] _);rw[<-ih,e1];unfold ez aX;rw[rB,bC,bz hg,gF hx,aA,aa3 (Int.natCast_nonneg _),mh,bQ,bz hg,gF hx,wv,wd,wo,w1,aA]
theorem Hc(s:aE)(hs:s.length<=4000)(a:Nat)(ha:a+2<=s.length)(w:Int):ij s a w (CA (s.drop a) a) (rk prog aK (.call 146 [V.p 0 0] [aX s (a:Int) 0 w])):=by
 have hL:=F1 s (by omega) (a+2) a w (s.length-(a+2)) (a+2) 0 (by omega) (by decide);have hle:=jU (s.drop (a+2)) ke;have hall:=F7 ke (s.drop (a+2));rw[abB]at hle;have w2:i64.wrap ((a:Int)+2)=((a+2:Nat):Int):=bD;have go:rk prog aK (.call 146 [V.p 0 0] [aX s (a:Int) 0 w])=
   rk prog aK (.at_ 146 1 (aJ 159) (sq4 ((a+2:Nat):Int) ((0:Nat):Int)) []
    [aC (dJ [] 2 0 0 (a:Int)),ez,aX s ((a+2:Nat):Int) 0 w]):=by
  unfold ez aX;rw[aal,w2,aA];rfl
 rw[go,hL];unfold CA;rw[List.drop_drop];simp only;generalize (s.drop (a+2)).takeWhile ke=h at *;have wl:i64.wrap (((a+2+h.length:Nat):Int)-((a+2:Nat):Int))=(h.length:Int):=bD;have fin:∀(V0:Nat) (er:Int),rk prog aK (.at_ 146 1 (aJ 511) (sv 84 [(0,V.p 0 0),(2,V.p 1 0),(3,V.p 2 0),(5,vu (V0:Int)),(6,vi er)]) []
   [aC (dJ [] 2 0 0 (a:Int)),ez,aX s ((a+2+h.length:Nat):Int) 0 w])=
   some (.d (Tok.D ⟨2,[],i64.wrap (V0:Int),0,a⟩),[oP s (a+2+h.length) er w a]):=by
  intro V0 er;have hb:rk prog aK (.call 151 [V.p 0 0,V.d (D.g [D.i .i64 2,D.s [],D.i .i64 (i64.wrap (V0:Int)),D.i .u64 0,D.i .i64 (a:Int)]),vi er] [aX s ((a+2+h.length:Nat):Int) 0 w])=
    some (.d (D.g [D.i .i64 2,D.s [],D.i .i64 (i64.wrap (V0:Int)),D.i .u64 0,D.i .i64 (a:Int)]),[oP s (a+2+h.length) er w a]):=Af s (a+2+h.length) (by omega) ⟨2,[],i64.wrap (V0:Int),0,a⟩ er w
  have hcs:∃cs,oP s (a+2+h.length) er w a=aC cs/\cs.length=4:=by
   unfold oP aX;split
   ·exact⟨_,rfl,rfl⟩
   ·split
    ·exact⟨_,rfl,rfl⟩
    ·exact⟨_,rfl,rfl⟩
  obtain⟨cs,hcs,hl⟩:=hcs;rw[hcs]at hb⊢;unfold ez;unfold aX at *;rw[He,DV hb hl (by rfl) (by rfl),aG];rfl
 have out:∀(V0:Nat) (er:Int),er=(if 16<h.length then 4 else if 9223372036854775807<V0 then 5 else 0)->
   rk prog aK (.at_ 146 1 (aJ 1567) (sq1 ((a+2:Nat):Int) (V0:Int) false) []
    [aC (dJ [] 2 0 0 (a:Int)),ez,aX s ((a+2+h.length:Nat):Int) 0 w])=
   some (.d (Tok.D ⟨2,[],i64.wrap (V0:Int),0,a⟩),[oP s (a+2+h.length) er w a]):=by
  intro V0 er he;rw[<-fin V0 er];subst he;by_cases h16:16<h.length
  ·rw[aaR h16];unfold ez aX;rw[mh,bH,wl,bC,aA]
  ·rw[aaN h16];by_cases h63:9223372036854775807<V0
   ·rw[aaR h63];unfold ez aX;rw[mh,bH,wl,bB,bC,aA]
   ·rw[aaN h63];unfold ez aX;rw[mh,bH,wl,bB,bB,aA]
 by_cases h16:16<h.length
 ·rw[aaR h16,out (AL 0 h) 4 (aaR h16).symm];exact lW s a _ 4 w (by decide) _
 ·rw[aaN h16];have hsm:AL 0 h=EN h:=vv h 0 0 (by decide) (by omega) (λ c hc=>abu.1 hall c hc);rw[hsm];by_cases h63:2^63<=EN h
  ·rw[aaR h63,out (EN h) 5 (by rw[aaN h16,aaR (by omega)])]
   exact lW s a _ 5 w (by decide) _
  ·have hw:i64.wrap ((EN h:Nat):Int)=((EN h:Nat):Int):=bD;rw[aaN h63,out (EN h) 0 (by rw[aaN h16,cE]),hw,aby];exact r9 s a (2+h.length) w _
def F8(r:Int×Bool):Option Out:=some (if r.2=true then .t [.d (.i .i64 r.1),.d (.i .i64 0)]else .t [.d (.i .i64 0),.d (.i .i64 5)],[])
theorem L6(v:Nat):iM false v=((v:Int),decide (v<2^63)):=rfl
theorem L7(v:Nat):iM true v=(-(v:Int),decide (v<=2^63)):=rfl
theorem Rv{n:Int}{b:Bool}(h:b=true):F8 (n,b)=some (.t [.d (.i .i64 n),.d (.i .i64 0)],[]):=by subst h;rfl
theorem IK{n:Int}{b:Bool}(h:b=false):F8 (n,b)=some (.t [.d (.i .i64 0),.d (.i .i64 5)],[]):=by subst h;rfl
theorem Ak(neg:Bool):∀(r p:aE) (v:Nat),(∀c∈r,aP c=true)->(p++r).length<=4000->v<=9223372036854775808->
  rk prog aK (Oa (p++r) (v:Int) (p.length:Int) neg [])=F8 (iM neg (om v r))
 | [],p,v,hd,hl,hv=>by
  rw[abo,xd,bB];show _=F8 (iM neg v)
  cases neg with
  |false=>
   rw[kX,aA,xe,L6];by_cases h:v<2^63
   ·rw[abf (by omega),bH,bH,aG,Rv (aa3 h),iZ]
   ·rw[aa3 (by omega),bQ,aG,IK (abf h)]
  |true=>
   rw[mr,aA,xe,bH,bQ,aG,L7,Rv (aa3 (by omega))];have e:i64.wrap (i64.wrap (0-i64.wrap (u64.wrap ((v:Int)-1)))-1) = -(v:Int):=by
    rcases Nat.eq_zero_or_pos v with h0|h0
    ·subst h0;rfl
    ·have w1:u64.wrap ((v:Int)-1)=(v:Int)-1:=by rw[aY];omega
     rw[w1,wrap_i64 (n:=(v:Int)-1) (by omega) (by omega),wrap_i64 (n:=0-((v:Int)-1)) (by omega) (by omega),iZ];omega
   rw[e]
 |c::r,p,v,hd,hl,hv=>by
  have hc:=hd c (by simp);have hcl:=wc hc;have hi:p.length<(p++c::r).length:=by simp
  have g:bW (p++c::r) (p.length:Int)=some c:=by rw[ct];simp
  have hpl:(p++[c]).length=p.length+1:=by simp
  have hlen:p.length+(r.length+1)<=4000:=by simpa using hl
  have w0:u64.wrap ((dS c:Nat):Int)=((dS c:Nat):Int):=by rw[aY];omega
  have w1:u64.wrap (9223372036854775808-((dS c:Nat):Int))=((9223372036854775808-dS c:Nat):Int):=by rw[aY];omega
  have wt:(((9223372036854775808-dS c:Nat):Int)).tdiv 10=(((9223372036854775808-dS c) / 10:Nat):Int):=by rw[Int.tdiv_eq_ediv_of_nonneg (by omega)];rfl
  have w2:u64.wrap ((((9223372036854775808-dS c) / 10:Nat):Int))=(((9223372036854775808-dS c) / 10:Nat):Int):=by rw[aY];omega
  have hnum:om v (c::r)=om (v*10+dS c) r:=rfl;rw[xd,bC,bz g,IZ hc,w0,w1,wt,w2,hnum];by_cases h:(9223372036854775808-dS c) / 10<v
  ·have hbig:2^63<om (v*10+dS c) r:=by have h1:=JQ r (v*10+dS c);have h2:(v*10+dS c)*1<=(v*10+dS c)*10^r.length:=Nat.mul_le_mul_left _ (Nat.pos_of_ne_zero (by simp));omega
   rw[bC,aG]
   cases neg with
   |true=>rw[L7,IK (abf (by omega))]
   |false=>rw[L6,IK (abf (by omega))]
  ·have w3:u64.wrap ((v:Int)*10)=((v*10:Nat):Int):=by rw[aY];omega
   have w4:u64.wrap (((v*10:Nat):Int)+((dS c:Nat):Int))=((v*10+dS c:Nat):Int):=by rw[aY];omega
   have w5:=ca p.length;have ih:=Ak neg r (p++[c]) (v*10+dS c) (λ c h=>hd c (by simp[h])) (by simpa using hl) (by omega);rw[abg,List.singleton_append,hpl]at ih;rw[bB,w3,w4,w5,aA,ih]
theorem Xa(sg ds:aE)(hsg:sg=[]\/sg=[43]\/sg=[45])(hds:∀c∈ds,aP c=true)(hne:sg++ds≠[])(hl:(sg++ds).length<=4000):
  rk prog aK (.call 149 [vs (sg++ds)] [])=if 60<ds.length then some (.t [.d (.i .i64 0),.d (.i .i64 4)],[])else F8 (iM ((sg++ds).head?==some 45) (dq ds)):=by
 have hL:=λ neg=>Ak neg ds [] 0 hds (by simp at hl⊢;omega) (by decide);have hcut:∀c:UInt8,List.take ((c::ds).length-1) (List.drop 1 (c::ds))=ds:=by intro c;simp
 have fin:∀neg:Bool,aD (rk prog aK) (aV (decide ((ds.length:Int)>60)) (Tr.ret (V.t [vi 0,vi 4],[]))
   (aR (Oa ds 0 0 neg [])))=
   if 60<ds.length then some (.t [.d (.i .i64 0),.d (.i .i64 4)],[])else F8 (iM neg (dq ds)):=by
  intro neg;by_cases h:60<ds.length
  ·rw[bC,aG,aaR h]
  ·rw[bB,aA,aaN h];exact hL neg
 rcases hsg with rfl|rfl|rfl
 ·rw[List.nil_append];rw[List.nil_append]at hne
  cases hds':ds with
  |nil=>exact absurd hds' hne
  |cons c q=>
   have hc:=hds c (by rw[hds'];simp);have h43:(c==43)=false:=abr.2 λ e=>by rw[e]at hc;exact absurd hc (by decide)
   have h45:(c==45)=false:=abr.2 λ e=>by rw[e]at hc;exact absurd hc (by decide)
   have g:bW (c::q) 0=some c:=rfl;have T4:((c.toNat:Int)==45)=(c==45):=cY c 45;have e43:((c.toNat:Int)==43)=(c==43):=cY c 43;have hh:((c::q).head?==some 45)=false:=by show (some c==some 45)=false;exact abr.2 λ e=>by injection e with e;rw[e]at h45;simp at h45
   have:=fin false;rw[hds']at this;rw[Xb,bz g,T4,h45,bH,bz g,e43,h43,aA,ug,bH,hh];exact this
 ·have g:bW ([43]++ds) 0=some 43:=rfl;rw[Xb,bz g,show (((43:UInt8).toNat:Int)==45)=false from rfl,bH,bz g,show (((43:UInt8).toNat:Int)==43)=true from rfl,aA,ug,bQ,List.singleton_append,hcut,aN (by rw[aaT];omega)];exact fin false
 ·have g:bW ([45]++ds) 0=some 45:=rfl;rw[Xb,bz g,show (((45:UInt8).toNat:Int)==45)=true from rfl,bQ,aA,ug,bQ,List.singleton_append,hcut,aN (by rw[aaT];omega)];exact fin true
end Go.Dn.Dec
