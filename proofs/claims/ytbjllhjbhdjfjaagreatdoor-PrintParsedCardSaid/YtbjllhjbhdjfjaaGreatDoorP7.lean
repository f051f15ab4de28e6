/- The document's lexer. Printed by a program of mine. -/
import Derived.Test.YtbjllhjbhdjfjaaGreatDoorP5
import Derived.Test.YtbjllhjbhdjfjaaGreatDoorP4
import Derived.KernelRfl
import Derived.Test.YtbjllhjbhdjfjaaGreatDoorP6
set_option linter.unusedVariables false
set_option linter.unusedSimpArgs false
set_option linter.unusedSectionVars false
namespace Go.Dn.Dec
open Go.IntKind (i64 u64 u8 u16 i32 u32)
open Go.Proofs
open Tryz (prog)
theorem XX(c:Int):EQ aF (.call 96 [.d (.i .u8 c)] []) (aM (decide (c ≥ 97)) (aM (decide (c<=122)) (.ret (vb true,[])) (aM (decide (c ≥ 65)) (aM (decide (c<=90)) (.ret (vb true,[])) (.ret (vb (c==95),[]))) (.ret (vb (c==95),[])))) (aM (decide (c ≥ 65)) (aM (decide (c<=90)) (.ret (vb true,[])) (.ret (vb (c==95),[]))) (.ret (vb (c==95),[])))):=bU
theorem XZ(c:Int):EQ aF (.call 98 [.d (.i .u8 c)] []) (aM (decide (c ≥ 48)) (.ret (vb (decide (c<=57)),[])) (.ret (vb false,[]))):=bU
theorem Wp(c:Int):EQ aF (.call 145 [.d (.i .u8 c)] []) (cV (.call 98 [.d (.i .u8 c)] []) λ a=>bm a λ e=>fN e λ f=>aM f (.ret (vi (i64.wrap (u8.wrap (c-48))),[])) (aM (decide (c ≥ 97)) (.call (.at_ 145 0 (fw 121) (sv 31 [(0,.d (.i .u8 c)),(9,vb (decide (c<=102)))]) [] []) .ret) (.call (.at_ 145 0 (fw 121) (sv 31 [(0,.d (.i .u8 c)),(9,vb false)]) [] []) .ret))):=bU
theorem XW(s:mP)(a:Int)(t:mP):EQ aF (.call 94 [vs s,vi a,vs t] []) (aM (decide (i64.wrap (a+(t.length:Int))<=(s.length:Int))) (aH (decide (0<=i64.wrap (a+(t.length:Int))/\i64.wrap (a+(t.length:Int))<=(s.length:Int))) (aH (decide (0<=a/\a<=((i64.wrap (a+(t.length:Int))).toNat:Int))) (.ret (vb (List.take ((i64.wrap (a+(t.length:Int))).toNat-a.toNat) (List.drop a.toNat s)==t),[])))) (.ret (vb false,[]))):=bU
theorem Tj(n m:Int)(s:mP)(i e a:Int):EQ aF (.call 95 [.p 0 0,vi n,vi m] [.cells (ng s i e a) []]) (.ret (.t [],[.cells (ng s i n m) []])):=bU
theorem Ws(s:mP)(i e a:Int):EQ aF (.call 147 [.p 0 0] [.cells (ng s i e a) []]) (.call (.at_ 147 1 (fw 19) (GR i) [] [.cells (ng s i e a) []]) .ret):=bU
theorem Wt(n:Int)(s:mP)(i e a:Int):EQ aF (.call 148 [.p 0 0,vi n] [.cells (ng s i e a) []]) (aM (decide (i64.wrap (i+n)<(s.length:Int))) (ob (bJ s (i64.wrap (i+n))) λ c=>cV (.call 98 [.d (.i .u8 (c.toNat:Int))] []) λ f=>bm f λ g=>fN g λ h => .ret (vb h,[.cells (ng s i e a) []])) (.ret (vb false,[.cells (ng s i e a) []]))):=bU
theorem Dv(s:mP)(i e a:Int):EQ aF (.call 45 [.p 0 0] [.cells (ng s i e a) []]) (.call (.at_ 45 1 (fw 2) ra [] [.cells (ng s i e a) []]) .ret):=bU
theorem XY(s:mP)(i e a:Int):EQ aF (.call 97 [.p 0 0] [.cells (ng s i e a) []]) (.call (.at_ 97 1 (fw 19) (IH i) [] [.cells (nE 0 [] 0 0 0) [],.cells (ng s i e a) []]) .ret):=bU
theorem Ti(k:Int)(t:mP)(n d b m:Int)(s:mP)(i e a:Int):EQ aF (.call 151 [.p 0 0,.d (.g [.i .i64 k,.s t,.i .i64 n,.i .u64 d,.i .i64 b]),vi m] [.cells (ng s i e a) []]) (aM (m != 0) (c1 (.call 95 [.p 0 0,vi m,vi b] [.cells (ng s i e a) []]) 4 [] λ c f=>cL c λ h=>aH (h.length==0) (.ret (.d (.g [.i .i64 k,.s t,.i .i64 n,.i .u64 d,.i .i64 b]),[.cells f []]))) (aM (decide (i<(s.length:Int))) (ob (bJ s i) λ j=>cV (.call 96 [.d (.i .u8 (j.toNat:Int))] []) λ l=>bm l λ o=>fN o λ q=>aM q (.call (.at_ 151 1 (fw 61) (L1 true) [] [.cells (nE 0 [] 0 0 0) [],.cells (nE k t n d b) [],.cells (ng s i e a) []]) .ret) (ob (bJ s i) λ r => .call (.at_ 151 1 (fw 61) (L1 ((r.toNat:Int)==46)) [] [.cells (nE 0 [] 0 0 0) [],.cells (nE k t n d b) [],.cells (ng s i e a) []]) .ret)) (.call (.at_ 151 1 (fw 61) (L1 false) [] [.cells (nE 0 [] 0 0 0) [],.cells (nE k t n d b) [],.cells (ng s i e a) []]) .ret))):=bU
theorem Wq(s:mP)(i e a:Int):EQ aF (.call 146 [.p 0 0] [.cells (ng s i e a) []]) (.call (.at_ 146 1 (fw 159) (Lf (i64.wrap (i+2)) 0) [] [.cells (nE 2 [] 0 0 i) [],.cells (nE 0 [] 0 0 0) [],.cells (ng s (i64.wrap (i+2)) e a) []]) .ret):=bU
theorem Th(s:mP):EQ aF (.call 149 [vs s] []) (ob (bJ s 0) λ a=>aM ((a.toNat:Int)==45) (.call (.at_ 149 0 (fw 27) (sv 56 [(0,vs s),(4,vb ((a.toNat:Int)==45)),(16,vb true)]) [] []) .ret) (ob (bJ s 0) λ c => .call (.at_ 149 0 (fw 27) (sv 56 [(0,vs s),(4,vb ((a.toNat:Int)==45)),(16,vb ((c.toNat:Int)==43))]) [] []) .ret)):=bU
theorem Wu(s:mP)(i e a:Int):EQ aF (.call 99 [.p 0 0] [.cells (ng s i e a) []]) (cV (.call 94 [vs s,vi i,vs [48,120]] []) λ c=>bm c λ f=>fN f λ g=>aM g (aM (decide (i64.wrap (i+2)<(s.length:Int))) (ob (bJ s (i64.wrap (i+2))) λ h=>cV (.call 145 [.d (.i .u8 (h.toNat:Int))] []) λ j=>bm j λ k=>bR .i64 k λ l => .call (.at_ 99 1 (fw 27) (Dl i (decide (l ≥ 0))) [] [.cells (nE 0 [] 0 0 0) [],.cells (ng s i e a) []]) .ret) (.call (.at_ 99 1 (fw 27) (Dl i false) [] [.cells (nE 0 [] 0 0 0) [],.cells (ng s i e a) []]) .ret)) (.call (.at_ 99 1 (fw 27) (Dl i false) [] [.cells (nE 0 [] 0 0 0) [],.cells (ng s i e a) []]) .ret)):=bU
theorem sq(s:mP)(i e a:Int):EQ aF (.call 46 [.p 0 0] [.cells (ng s i e a) []]) (aM (i==(s.length:Int)) (.ret (.d (.g [.i .i64 6,.s [],.i .i64 0,.i .u64 0,.i .i64 i]),[.cells (ng s i e a) []])) (ob (bJ s i) λ b=>aM (decide (i64.wrap (i+1)<(s.length:Int))) (ob (bJ s (i64.wrap (i+1))) λ c => .call (.at_ 46 1 (fw 127) (KL i (.d (.i .u8 (b.toNat:Int))) (.d (.i .u8 (c.toNat:Int)))) [] [.cells (nE 0 [] 0 0 0) [],.cells (ng s i e a) []]) .ret) (.call (.at_ 46 1 (fw 127) (KL i (.d (.i .u8 (b.toNat:Int))) (.d (.i .u8 0))) [] [.cells (nE 0 [] 0 0 0) [],.cells (ng s i e a) []]) .ret))):=bU
theorem XJ(s:mP):EQ aF (.call 20 [vs s] []) (aM (decide ((s.length:Int)>2000)) (.ret (.t [vl true [],vi 4,vi 0],[])) (.call (.at_ 20 0 (fw 47) (xt true []) [(6,5)] [.cells (ng s 0 0 0) []]) .ret)):=bU
theorem xk(n0:Int)(b1:Bool):EQ aF (.at_ 145 0 (fw 121) (sv 31 [(0,.d (.i .u8 n0)),(9,vb b1)]) [] []) (aM b1 (.ret (vi (i64.wrap (i64.wrap (u8.wrap (n0-97))+10)),[])) (aM (decide (n0 ≥ 65)) (.call (.at_ 145 0 (fw 505) (sv 31 [(0,.d (.i .u8 n0)),(20,vb (decide (n0<=70)))]) [] []) .ret) (.call (.at_ 145 0 (fw 505) (sv 31 [(0,.d (.i .u8 n0)),(20,vb false)]) [] []) .ret))):=bU
theorem Aq(n0:Int)(l1:mP)(n2 n3 n4:Int):EQ aF (.at_ 147 1 (fw 19) (GR n0) [] [.cells (ng l1 n2 n3 n4) []]) (aM (decide (n2<(l1.length:Int))) (ob (bJ l1 n2) λ a=>cV (.call 98 [.d (.i .u8 (a.toNat:Int))] []) λ c=>bm c λ e=>fN e λ f => .call (.at_ 147 1 (fw 195) (KX n0 f) [] [.cells (ng l1 n2 n3 n4) []]) .ret) (.call (.at_ 147 1 (fw 195) (KX n0 false) [] [.cells (ng l1 n2 n3 n4) []]) .ret)):=bU
theorem Ce(l0:mP)(n1 n2 n3:Int):EQ aF (.at_ 45 1 (fw 2) ra [] [.cells (ng l0 n1 n2 n3) []]) (aM (decide (n1<(l0.length:Int))) (.call (.at_ 45 1 (fw 24) (KY (n2==0)) [] [.cells (ng l0 n1 n2 n3) []]) .ret) (.call (.at_ 45 1 (fw 24) (KY false) [] [.cells (ng l0 n1 n2 n3) []]) .ret)):=bU
theorem D3(n0 n1:Int)(l2:mP)(n3 n4 n5:Int)(l6:mP)(n7 n8 n9:Int):EQ aF (.at_ 97 1 (fw 19) (IH n0) [] [.cells (nE n1 l2 n3 n4 n5) [],.cells (ng l6 n7 n8 n9) []]) (aM (decide (n7<(l6.length:Int))) (ob (bJ l6 n7) λ a=>cV (.call 96 [.d (.i .u8 (a.toNat:Int))] []) λ c=>bm c λ e=>fN e λ f=>aM f (.call (.at_ 97 1 (fw 195) (yK n0 true) [] [.cells (nE n1 l2 n3 n4 n5) [],.cells (ng l6 n7 n8 n9) []]) .ret) (ob (bJ l6 n7) λ g=>cV (.call 98 [.d (.i .u8 (g.toNat:Int))] []) λ h=>bm h λ j=>fN j λ k=>aM k (.call (.at_ 97 1 (fw 195) (yK n0 true) [] [.cells (nE n1 l2 n3 n4 n5) [],.cells (ng l6 n7 n8 n9) []]) .ret) (ob (bJ l6 n7) λ l => .call (.at_ 97 1 (fw 195) (yK n0 ((l.toNat:Int)==46)) [] [.cells (nE n1 l2 n3 n4 n5) [],.cells (ng l6 n7 n8 n9) []]) .ret))) (.call (.at_ 97 1 (fw 195) (yK n0 false) [] [.cells (nE n1 l2 n3 n4 n5) [],.cells (ng l6 n7 n8 n9) []]) .ret)):=bU
theorem K4(b0:Bool)(n1:Int)(l2:mP)(n3 n4 n5 n6:Int)(l7:mP)(n8 n9 n10:Int)(l11:mP)(n12 n13 n14:Int):EQ aF (.at_ 151 1 (fw 61) (L1 b0) [] [.cells (nE n1 l2 n3 n4 n5) [],.cells (nE n6 l7 n8 n9 n10) [],.cells (ng l11 n12 n13 n14) []]) (aM b0 (c1 (.call 95 [.p 0 0,vi 2,vi n12] [.cells (ng l11 n12 n13 n14) []]) 4 [] λ a c=>cL a λ e=>aH (e.length==0) (.ret (.d (.g [.i .i64 n6,.s l7,.i .i64 n8,.i .u64 n9,.i .i64 n10]),[.cells c []]))) (.ret (.d (.g [.i .i64 n6,.s l7,.i .i64 n8,.i .u64 n9,.i .i64 n10]),[.cells (ng l11 n12 n13 n14) []]))):=bU
theorem qZ(n0 n1 n2:Int)(l3:mP)(n4 n5 n6 n7:Int)(l8:mP)(n9 n10 n11:Int)(l12:mP)(n13 n14 n15:Int):EQ aF (.at_ 146 1 (fw 159) (Lf n0 n1) [] [.cells (nE n2 l3 n4 n5 n6) [],.cells (nE n7 l8 n9 n10 n11) [],.cells (ng l12 n13 n14 n15) []]) (aM (decide (n13<(l12.length:Int))) (ob (bJ l12 n13) λ a=>cV (.call 145 [.d (.i .u8 (a.toNat:Int))] []) λ c=>bm c λ e=>bR .i64 e λ f => .call (.at_ 146 1 (fw 1567) (H3 n0 n1 (decide (f ≥ 0))) [] [.cells (nE n2 l3 n4 n5 n6) [],.cells (nE n7 l8 n9 n10 n11) [],.cells (ng l12 n13 n14 n15) []]) .ret) (.call (.at_ 146 1 (fw 1567) (H3 n0 n1 false) [] [.cells (nE n2 l3 n4 n5 n6) [],.cells (nE n7 l8 n9 n10 n11) [],.cells (ng l12 n13 n14 n15) []]) .ret)):=bU
theorem tT(l0:mP)(b1 b2:Bool):EQ aF (.at_ 149 0 (fw 27) (sv 56 [(0,vs l0),(4,vb b1),(16,vb b2)]) [] []) (aM b2 (aH (decide ((0:Int)<=1/\1<=(l0.length:Int))) (aM (decide (((List.take (l0.length-1) (List.drop 1 l0)).length:Int)>60)) (.ret (.t [vi 0,vi 4],[])) (.call (.at_ 149 0 (fw 351) (I2 (List.take (l0.length-1) (List.drop 1 l0)) b1 0 0) [] []) .ret))) (aM (decide ((l0.length:Int)>60)) (.ret (.t [vi 0,vi 4],[])) (.call (.at_ 149 0 (fw 351) (I2 l0 b1 0 0) [] []) .ret))):=bU
theorem D4(n0:Int)(b1:Bool)(n2:Int)(l3:mP)(n4 n5 n6:Int)(l7:mP)(n8 n9 n10:Int):EQ aF (.at_ 99 1 (fw 27) (Dl n0 b1) [] [.cells (nE n2 l3 n4 n5 n6) [],.cells (ng l7 n8 n9 n10) []]) (aM b1 (c1 (.call 146 [.p 0 0] [.cells (ng l7 n8 n9 n10) []]) 4 [] λ o0 l3=>bm o0 λ d5=>jM 5 d5 λ l6=>aH ([.d (pb l6 0),.d (pb l6 1),.d (pb l6 2),.d (pb l6 3),.d (pb l6 4)].all V.one) (.ret (.d (.g [l6.getD 0 (.b false),l6.getD 1 (.b false),l6.getD 2 (.b false),l6.getD 3 (.b false),l6.getD 4 (.b false)]),[.cells l3 []]))) (ob (bJ l7 n8) λ c7=>aM ((c7.toNat:Int)==43) (.call (.at_ 99 1 (fw 55) (Kw n0 true) [] [.cells (nE n2 l3 n4 n5 n6) [],.cells (ng l7 n8 n9 n10) []]) .ret) (ob (bJ l7 n8) λ c8 => .call (.at_ 99 1 (fw 55) (Kw n0 ((c8.toNat:Int)==45)) [] [.cells (nE n2 l3 n4 n5 n6) [],.cells (ng l7 n8 n9 n10) []]) .ret))):=bU
theorem Ar(n0 n1 n2 n3:Int)(l4:mP)(n5 n6 n7:Int)(l8:mP)(n9 n10 n11:Int):EQ aF (.at_ 46 1 (fw 127) (KL n0 (.d (.i .u8 n1)) (.d (.i .u8 n2))) [] [.cells (nE n3 l4 n5 n6 n7) [],.cells (ng l8 n9 n10 n11) []]) (cV (.call 96 [.d (.i .u8 n1)] []) λ a=>bm a λ c=>fN c λ e=>aM e (c1 (.call 97 [.p 0 0] [.cells (ng l8 n9 n10 n11) []]) 4 [] λ f h=>bm f λ j=>jM 5 j λ k=>aH ([.d (pb k 0),.d (pb k 1),.d (pb k 2),.d (pb k 3),.d (pb k 4)].all V.one) (.ret (.d (.g [k.getD 0 (.b false),k.getD 1 (.b false),k.getD 2 (.b false),k.getD 3 (.b false),k.getD 4 (.b false)]),[.cells h []]))) (cV (.call 98 [.d (.i .u8 n1)] []) λ l=>bm l λ m=>fN m λ n=>aM n (.call (.at_ 46 1 (fw 3903) (QU n0 (.d (.i .u8 n1)) (.d (.i .u8 n2)) n) [] [.cells (nE n3 l4 n5 n6 n7) [],.cells (ng l8 n9 n10 n11) []]) .ret) (aM (n1==46) (cV (.call 98 [.d (.i .u8 n2)] []) λ o=>bm o λ q=>fN q λ r => .call (.at_ 46 1 (fw 3903) (QU n0 (.d (.i .u8 n1)) (.d (.i .u8 n2)) r) [] [.cells (nE n3 l4 n5 n6 n7) [],.cells (ng l8 n9 n10 n11) []]) .ret) (.call (.at_ 46 1 (fw 3903) (QU n0 (.d (.i .u8 n1)) (.d (.i .u8 n2)) false) [] [.cells (nE n3 l4 n5 n6 n7) [],.cells (ng l8 n9 n10 n11) []]) .ret)))):=bU
theorem qY(n0:Int)(b1:Bool):EQ aF (.at_ 145 0 (fw 505) (sv 31 [(0,.d (.i .u8 n0)),(20,vb b1)]) [] []) (aM b1 (.ret (vi (i64.wrap (i64.wrap (u8.wrap (n0-65))+10)),[])) (.ret (vi (-1),[]))):=bU
theorem xl(n0:Int)(b1:Bool)(l2:mP)(n3 n4 n5:Int):EQ aF (.at_ 147 1 (fw 195) (KX n0 b1) [] [.cells (ng l2 n3 n4 n5) []]) (aM b1 (.call (.at_ 147 1 (fw 19) (GR n0) [] [.cells (ng l2 (i64.wrap (n3+1)) n4 n5) []]) .ret) (.ret (vb (decide (n3>n0)),[.cells (ng l2 n3 n4 n5) []]))):=bU
theorem xo(b0:Bool)(l1:mP)(n2 n3 n4:Int):EQ aF (.at_ 45 1 (fw 24) (KY b0) [] [.cells (ng l1 n2 n3 n4) []]) (aM b0 (ob (bJ l1 n2) λ a=>aM ((a.toNat:Int)==9) (.call (.at_ 45 1 (fw 212) (ug (.d (.i .u8 (a.toNat:Int))) true) [] [.cells (ng l1 n2 n3 n4) []]) .ret) (aM ((a.toNat:Int)==10) (.call (.at_ 45 1 (fw 212) (ug (.d (.i .u8 (a.toNat:Int))) true) [] [.cells (ng l1 n2 n3 n4) []]) .ret) (aM ((a.toNat:Int)==13) (.call (.at_ 45 1 (fw 212) (ug (.d (.i .u8 (a.toNat:Int))) true) [] [.cells (ng l1 n2 n3 n4) []]) .ret) (.call (.at_ 45 1 (fw 212) (ug (.d (.i .u8 (a.toNat:Int))) ((a.toNat:Int)==32)) [] [.cells (ng l1 n2 n3 n4) []]) .ret)))) (.ret (.t [],[.cells (ng l1 n2 n3 n4) []]))):=bU
theorem tU(n0:Int)(b1:Bool)(n2:Int)(l3:mP)(n4 n5 n6:Int)(l7:mP)(n8 n9 n10:Int):EQ aF (.at_ 97 1 (fw 195) (yK n0 b1) [] [.cells (nE n2 l3 n4 n5 n6) [],.cells (ng l7 n8 n9 n10) []]) (aM b1 (.call (.at_ 97 1 (fw 19) (IH n0) [] [.cells (nE n2 l3 n4 n5 n6) [],.cells (ng l7 (i64.wrap (n8+1)) n9 n10) []]) .ret) (aH (decide (0<=n8/\n8<=(l7.length:Int))) (aH (decide (0<=n0/\n0<=(n8.toNat:Int))) (aM (decide (((List.take (n8.toNat-n0.toNat) (List.drop n0.toNat l7)).length:Int)>120)) (c1 (.call 95 [.p 0 0,vi 4,vi n0] [.cells (ng l7 n8 n9 n10) []]) 4 [] λ o0 l3=>cL o0 λ l5=>aH (l5.length==0) (.ret (.d (.g [.i .i64 0,.s [],.i .i64 0,.i .u64 0,.i .i64 0]),[.cells l3 []]))) (.call (.at_ 97 1 (fw 351) (Lt n0 (List.take (n8.toNat-n0.toNat) (List.drop n0.toNat l7)) 0) [] [.cells (nE n2 l3 n4 n5 n6) [],.cells (ng l7 n8 n9 n10) []]) .ret))))):=bU
theorem lM(n0 n1:Int)(b2:Bool)(n3:Int)(l4:mP)(n5 n6 n7 n8:Int)(l9:mP)(n10 n11 n12:Int)(l13:mP)(n14 n15 n16:Int):EQ aF (.at_ 146 1 (fw 1567) (H3 n0 n1 b2) [] [.cells (nE n3 l4 n5 n6 n7) [],.cells (nE n8 l9 n10 n11 n12) [],.cells (ng l13 n14 n15 n16) []]) (aM b2 (ob (bJ l13 n14) λ a=>cV (.call 145 [.d (.i .u8 (a.toNat:Int))] []) λ c=>bm c λ e=>bR .i64 e λ f => .call (.at_ 146 1 (fw 159) (Lf n0 (u64.wrap ((BitVec.ofInt u64.bits (u64.wrap (n1*16)) ||| BitVec.ofInt u64.bits (u64.wrap f)).toNat:Int))) [] [.cells (nE n3 l4 n5 n6 n7) [],.cells (nE n8 l9 n10 n11 n12) [],.cells (ng l13 (i64.wrap (n14+1)) n15 n16) []]) .ret) (aM (decide (i64.wrap (n14-n0)>16)) (.call (.at_ 146 1 (fw 511) (Lg n1 4) [] [.cells (nE n3 l4 n5 n6 n7) [],.cells (nE n8 l9 n10 n11 n12) [],.cells (ng l13 n14 n15 n16) []]) .ret) (aM (decide (n1>9223372036854775807)) (.call (.at_ 146 1 (fw 511) (Lg n1 5) [] [.cells (nE n3 l4 n5 n6 n7) [],.cells (nE n8 l9 n10 n11 n12) [],.cells (ng l13 n14 n15 n16) []]) .ret) (.call (.at_ 146 1 (fw 511) (Lg n1 0) [] [.cells (nE n3 l4 n5 n6 n7) [],.cells (nE n8 l9 n10 n11 n12) [],.cells (ng l13 n14 n15 n16) []]) .ret)))):=bU
theorem xm(l0:mP)(b1:Bool)(n2 n3:Int):EQ aF (.at_ 149 0 (fw 351) (I2 l0 b1 n2 n3) [] []) (aM (decide (n3<(l0.length:Int))) (ob (bJ l0 n3) λ a=>aM (decide (n2>u64.wrap ((u64.wrap (9223372036854775808-u64.wrap (u8.wrap ((a.toNat:Int)-48)))).tdiv 10))) (.ret (.t [vi 0,vi 5],[])) (.call (.at_ 149 0 (fw 351) (I2 l0 b1 (u64.wrap (u64.wrap (n2*10)+u64.wrap (u8.wrap ((a.toNat:Int)-48)))) (i64.wrap (n3+1))) [] []) .ret)) (aM (!b1) (.call (.at_ 149 0 (fw 447) (sv 56 [(4,vb b1),(5,vu n2),(47,vb (decide (n2>9223372036854775807)))]) [] []) .ret) (.call (.at_ 149 0 (fw 447) (sv 56 [(4,vb b1),(5,vu n2),(47,vb false)]) [] []) .ret))):=bU
theorem ss(n0:Int)(b1:Bool)(n2:Int)(l3:mP)(n4 n5 n6:Int)(l7:mP)(n8 n9 n10:Int):EQ aF (.at_ 99 1 (fw 55) (Kw n0 b1) [] [.cells (nE n2 l3 n4 n5 n6) [],.cells (ng l7 n8 n9 n10) []]) (aM b1 (c1 (.call 147 [.p 0 0] [.cells (ng l7 (i64.wrap (n8+1)) n9 n10) []]) 4 [] λ o0 l_3_1=>bm o0 λ d5=>fN d5 λ b6=>ob l_3_1[1]? λ v7=>bm v7 λ d8=>bR .i64 d8 λ n9=>ob l_3_1[0]? λ v10=>bm v10 λ d11=>eF d11 λ l12=>aM (decide (n9<(l12.length:Int))) (ob l_3_1[0]? λ v13=>bm v13 λ d14=>eF d14 λ l15=>ob l_3_1[1]? λ v16=>bm v16 λ d17=>bR .i64 d17 λ n18=>ob (bJ l15 n18) λ c19=>aM ((c19.toNat:Int)==46) (c1 (.call 148 [.p 0 0,vi 1] [.cells l_3_1 []]) l_3_1.length [] λ o20 l23=>bm o20 λ d25=>fN d25 λ b26 => .call (.at_ 99 1 (fw 447) (BM n0 true b26) [] [.cells (nE n2 l3 n4 n5 n6) [],.cells l23 []]) .ret) (.call (.at_ 99 1 (fw 447) (BM n0 true false) [] [.cells (nE n2 l3 n4 n5 n6) [],.cells l_3_1 []]) .ret)) (.call (.at_ 99 1 (fw 447) (BM n0 true false) [] [.cells (nE n2 l3 n4 n5 n6) [],.cells l_3_1 []]) .ret)) (c1 (.call 147 [.p 0 0] [.cells (ng l7 n8 n9 n10) []]) 4 [] λ o27 l30=>bm o27 λ d32=>fN d32 λ b33=>ob l30[1]? λ v34=>bm v34 λ d35=>bR .i64 d35 λ n36=>ob l30[0]? λ v37=>bm v37 λ d38=>eF d38 λ l39=>aM (decide (n36<(l39.length:Int))) (ob l30[0]? λ v40=>bm v40 λ d41=>eF d41 λ l42=>ob l30[1]? λ v43=>bm v43 λ d44=>bR .i64 d44 λ n45=>ob (bJ l42 n45) λ c46=>aM ((c46.toNat:Int)==46) (c1 (.call 148 [.p 0 0,vi 1] [.cells l30 []]) l30.length [] λ o47 l50=>bm o47 λ d52=>fN d52 λ b53 => .call (.at_ 99 1 (fw 447) (BM n0 true b53) [] [.cells (nE n2 l3 n4 n5 n6) [],.cells l50 []]) .ret) (.call (.at_ 99 1 (fw 447) (BM n0 true false) [] [.cells (nE n2 l3 n4 n5 n6) [],.cells l30 []]) .ret)) (.call (.at_ 99 1 (fw 447) (BM n0 true false) [] [.cells (nE n2 l3 n4 n5 n6) [],.cells l30 []]) .ret))):=bU
theorem xq(n0 n1 n2:Int)(b3:Bool)(n4:Int)(l5:mP)(n6 n7 n8:Int)(l9:mP)(n10 n11 n12:Int):EQ aF (.at_ 46 1 (fw 3903) (QU n0 (.d (.i .u8 n1)) (.d (.i .u8 n2)) b3) [] [.cells (nE n4 l5 n6 n7 n8) [],.cells (ng l9 n10 n11 n12) []]) (aM b3 (c1 (.call 99 [.p 0 0] [.cells (ng l9 n10 n11 n12) []]) 4 [] λ a c=>bm a λ e=>jM 5 e λ f=>aH ([.d (pb f 0),.d (pb f 1),.d (pb f 2),.d (pb f 3),.d (pb f 4)].all V.one) (.ret (.d (.g [f.getD 0 (.b false),f.getD 1 (.b false),f.getD 2 (.b false),f.getD 3 (.b false),f.getD 4 (.b false)]),[.cells c []]))) (aM (n1==43) (.call (.at_ 46 1 (fw 16191) (JO n0 (.d (.i .u8 n1)) (.d (.i .u8 n2)) true) [] [.cells (nE n4 l5 n6 n7 n8) [],.cells (ng l9 n10 n11 n12) []]) .ret) (.call (.at_ 46 1 (fw 16191) (JO n0 (.d (.i .u8 n1)) (.d (.i .u8 n2)) (n1==45)) [] [.cells (nE n4 l5 n6 n7 n8) [],.cells (ng l9 n10 n11 n12) []]) .ret))):=bU
theorem q8(b0:Bool)(l1:List D)(l2:List V):EQ aF (.at_ 20 0 (fw 47) (xt b0 l1) [(6,5)] [.cells l2 []]) (c1 (.call 45 [.p 0 0] [.cells l2 []]) l2.length [] λ a c=>cL a λ e=>aH (e.length==0) (ob c[2]? λ f=>bm f λ h=>bR .i64 h λ j=>aM (j != 0) (ob c[2]? λ k=>bm k λ m=>bR .i64 m λ n=>ob c[3]? λ o=>bm o λ q=>bR .i64 q λ r => .ret (.t [vl true [],vi n,vi r],[])) (c1 (.call 46 [.p 0 0] [.cells c []]) c.length [] λ s zu=>bm s λ v=>jM 5 v λ w=>aH ([.d (pb w 0),.d (pb w 1),.d (pb w 2),.d (pb w 3),.d (pb w 4)].all V.one) (ob zu[2]? λ x=>bm x λ y=>bR .i64 y λ z=>aM (z != 0) (ob zu[2]? λ a0=>bm a0 λ a1=>bR .i64 a1 λ a2=>ob zu[3]? λ a3=>bm a3 λ a4=>bR .i64 a4 λ a5 => .ret (.t [vl true [],vi a2,vi a5],[])) (aH (bw 5 l1) (aH (b0||dK [.g [w.getD 0 (.b false),w.getD 1 (.b false),w.getD 2 (.b false),w.getD 3 (.b false),w.getD 4 (.b false)]]) (aH (decide (l1.length+1<=4294967296)) (bR .i64 (pb w 0) λ a6=>aM (a6==6) (.ret (.t [vl (b0&&false) (l1++[.g [w.getD 0 (.b false),w.getD 1 (.b false),w.getD 2 (.b false),w.getD 3 (.b false),w.getD 4 (.b false)]]),vi 0,vi 0],[])) (.call (.at_ 20 0 (fw 47) (xt (b0&&false) (l1++[.g [w.getD 0 (.b false),w.getD 1 (.b false),w.getD 2 (.b false),w.getD 3 (.b false),w.getD 4 (.b false)]])) [(6,5)] [.cells zu []]) .ret))))))))):=bU
theorem jS(n0:Int)(b1:Bool)(l2:mP)(n3 n4 n5:Int):EQ aF (.at_ 45 1 (fw 212) (ug (.d (.i .u8 n0)) b1) [] [.cells (ng l2 n3 n4 n5) []]) (aM b1 (.call (.at_ 45 1 (fw 2) ra [] [.cells (ng l2 (i64.wrap (n3+1)) n4 n5) []]) .ret) (aM (n0==35) (.call (.at_ 45 1 (fw 980) (KZ true) [] [.cells (ng l2 n3 n4 n5) []]) .ret) (cV (.call 94 [vs l2,vi n3,vs [47,47]] []) λ a=>bm a λ c=>fN c λ e => .call (.at_ 45 1 (fw 980) (KZ e) [] [.cells (ng l2 n3 n4 n5) []]) .ret))):=bU
theorem G5(n0 n1 n2:Int)(l3:mP)(n4 n5 n6 n7:Int)(l8:mP)(n9 n10 n11:Int)(l12:mP)(n13 n14 n15:Int):EQ aF (.at_ 146 1 (fw 511) (Lg n0 n1) [] [.cells (nE n2 l3 n4 n5 n6) [],.cells (nE n7 l8 n9 n10 n11) [],.cells (ng l12 n13 n14 n15) []]) (c1 (.call 151 [.p 0 0,.d (.g [.i .i64 n2,.s l3,.i .i64 (i64.wrap n0),.i .u64 n5,.i .i64 n6]),vi n1] [.cells (ng l12 n13 n14 n15) []]) 4 [] λ o0 l3=>bm o0 λ d5=>jM 5 d5 λ l6=>aH ([.d (pb l6 0),.d (pb l6 1),.d (pb l6 2),.d (pb l6 3),.d (pb l6 4)].all V.one) (.ret (.d (.g [l6.getD 0 (.b false),l6.getD 1 (.b false),l6.getD 2 (.b false),l6.getD 3 (.b false),l6.getD 4 (.b false)]),[.cells l3 []]))):=bU
theorem xn(b0:Bool)(n1:Int)(b2:Bool):EQ aF (.at_ 149 0 (fw 447) (sv 56 [(4,vb b0),(5,vu n1),(47,vb b2)]) [] []) (aM b2 (.ret (.t [vi 0,vi 5],[])) (aM b0 (.ret (.t [vi (i64.wrap (i64.wrap (0-i64.wrap (u64.wrap (n1-1)))-1)),vi 0],[])) (.ret (.t [vi (i64.wrap n1),vi 0],[])))):=bU
theorem pV(n0:Int)(b1 b2:Bool)(n3:Int)(l4:mP)(n5 n6 n7:Int)(l8:List V):EQ aF (.at_ 99 1 (fw 447) (BM n0 b1 b2) [] [.cells (nE n3 l4 n5 n6 n7) [],.cells l8 []]) (aM b2 (ob l8[1]? λ a=>bm a λ c=>bR .i64 c λ e=>aH (decide (1<l8.length)&&true) (c1 (.call 147 [.p 0 0] [.cells (l8.set 1 (vi (i64.wrap (e+1)))) []]) ((l8.set 1 (vi (i64.wrap (e+1)))).length) [] λ f g=>bm f λ h=>fN h λ j=>ob g[1]? λ k=>bm k λ l=>bR .i64 l λ m=>ob g[0]? λ n=>bm n λ o=>eF o λ q=>aM (decide (m<(q.length:Int))) (ob g[0]? λ r=>bm r λ t=>eF t λ zu=>ob g[1]? λ v=>bm v λ w=>bR .i64 w λ x=>ob (bJ zu x) λ y=>aM ((y.toNat:Int)==101) (.call (.at_ 99 1 (fw 895) (BL n0 false true) [] [.cells (nE n3 l4 n5 n6 n7) [],.cells g []]) .ret) (ob g[0]? λ z=>bm z λ a0=>eF a0 λ a1=>ob g[1]? λ a2=>bm a2 λ a3=>bR .i64 a3 λ a4=>ob (bJ a1 a4) λ a5 => .call (.at_ 99 1 (fw 895) (BL n0 false ((a5.toNat:Int)==69)) [] [.cells (nE n3 l4 n5 n6 n7) [],.cells g []]) .ret)) (.call (.at_ 99 1 (fw 895) (BL n0 false false) [] [.cells (nE n3 l4 n5 n6 n7) [],.cells g []]) .ret))) (ob l8[1]? λ a6=>bm a6 λ a7=>bR .i64 a7 λ a8=>ob l8[0]? λ a9=>bm a9 λ aa=>eF aa λ ab=>aM (decide (a8<(ab.length:Int))) (ob l8[0]? λ ac=>bm ac λ ad=>eF ad λ ae=>ob l8[1]? λ af=>bm af λ ag=>bR .i64 ag λ ah=>ob (bJ ae ah) λ ai=>aM ((ai.toNat:Int)==101) (.call (.at_ 99 1 (fw 895) (BL n0 b1 true) [] [.cells (nE n3 l4 n5 n6 n7) [],.cells l8 []]) .ret) (ob l8[0]? λ aj=>bm aj λ ak=>eF ak λ al=>ob l8[1]? λ am=>bm am λ an=>bR .i64 an λ ao=>ob (bJ al ao) λ ap => .call (.at_ 99 1 (fw 895) (BL n0 b1 ((ap.toNat:Int)==69)) [] [.cells (nE n3 l4 n5 n6 n7) [],.cells l8 []]) .ret)) (.call (.at_ 99 1 (fw 895) (BL n0 b1 false) [] [.cells (nE n3 l4 n5 n6 n7) [],.cells l8 []]) .ret))):=bU
theorem u7(n0 n1 n2:Int)(b3:Bool)(n4:Int)(l5:mP)(n6 n7 n8:Int)(l9:mP)(n10 n11 n12:Int):EQ aF (.at_ 46 1 (fw 16191) (JO n0 (.d (.i .u8 n1)) (.d (.i .u8 n2)) b3) [] [.cells (nE n4 l5 n6 n7 n8) [],.cells (ng l9 n10 n11 n12) []]) (aM b3 (cV (.call 98 [.d (.i .u8 n2)] []) λ a=>bm a λ c=>fN c λ e=>aM e (.call (.at_ 46 1 (fw 57151) (Me n0 true) [] [.cells (nE n4 l5 n6 n7 n8) [],.cells (ng l9 n10 n11 n12) []]) .ret) (aM (n2==46) (aM (decide (i64.wrap (n0+2)<(l9.length:Int))) (ob (bJ l9 (i64.wrap (n0+2))) λ f=>cV (.call 98 [.d (.i .u8 (f.toNat:Int))] []) λ g=>bm g λ h=>fN h λ j => .call (.at_ 46 1 (fw 57151) (Me n0 j) [] [.cells (nE n4 l5 n6 n7 n8) [],.cells (ng l9 n10 n11 n12) []]) .ret) (.call (.at_ 46 1 (fw 57151) (Me n0 false) [] [.cells (nE n4 l5 n6 n7 n8) [],.cells (ng l9 n10 n11 n12) []]) .ret)) (.call (.at_ 46 1 (fw 57151) (Me n0 false) [] [.cells (nE n4 l5 n6 n7 n8) [],.cells (ng l9 n10 n11 n12) []]) .ret))) (aM (n1==34) (.call (.at_ 46 1 (fw 65343) (JQ n0 (.d (.i .u8 n1)) true) [] [.cells (nE n4 l5 n6 n7 n8) [],.cells (ng l9 n10 n11 n12) []]) .ret) (.call (.at_ 46 1 (fw 65343) (JQ n0 (.d (.i .u8 n1)) (n1==39)) [] [.cells (nE n4 l5 n6 n7 n8) [],.cells (ng l9 n10 n11 n12) []]) .ret))):=bU
theorem pU(b0:Bool)(l1:mP)(n2 n3 n4:Int):EQ aF (.at_ 45 1 (fw 980) (KZ b0) [] [.cells (ng l1 n2 n3 n4) []]) (aM b0 (.call (.at_ 45 1 (fw 2516) ra [] [.cells (ng l1 n2 n3 n4) []]) .ret) (cV (.call 94 [vs l1,vi n2,vs [47,42]] []) λ a=>bm a λ c=>fN c λ e=>aM e (.call (.at_ 45 1 (fw 38868) (tq (i64.wrap (n2+2))) [] [.cells (ng l1 n2 n3 n4) []]) .ret) (.ret (.t [],[.cells (ng l1 n2 n3 n4) []])))):=bU
theorem pW(n0:Int)(b1 b2:Bool)(n3:Int)(l4:mP)(n5 n6 n7:Int)(l8:List V):EQ aF (.at_ 99 1 (fw 895) (BL n0 b1 b2) [] [.cells (nE n3 l4 n5 n6 n7) [],.cells l8 []]) (aM b2 (ob l8[1]? λ a=>bm a λ c=>bR .i64 c λ e=>ob l8[0]? λ f=>bm f λ g=>eF g λ h=>aM (decide (i64.wrap (e+1)<(h.length:Int))) (ob l8[0]? λ j=>bm j λ k=>eF k λ l=>ob l8[1]? λ m=>bm m λ n=>bR .i64 n λ o=>ob (bJ l (i64.wrap (o+1))) λ q=>aM ((q.toNat:Int)==43) (.call (.at_ 99 1 (fw 3455) (QV n0 b1 true) [] [.cells (nE n3 l4 n5 n6 n7) [],.cells l8 []]) .ret) (ob l8[0]? λ r=>bm r λ t=>eF t λ zu=>ob l8[1]? λ v=>bm v λ w=>bR .i64 w λ x=>ob (bJ zu (i64.wrap (x+1))) λ y => .call (.at_ 99 1 (fw 3455) (QV n0 b1 ((y.toNat:Int)==45)) [] [.cells (nE n3 l4 n5 n6 n7) [],.cells l8 []]) .ret)) (.call (.at_ 99 1 (fw 3455) (QV n0 b1 false) [] [.cells (nE n3 l4 n5 n6 n7) [],.cells l8 []]) .ret)) (aM b1 (ob l8[0]? λ z=>bm z λ a0=>eF a0 λ a1=>ob l8[1]? λ a2=>bm a2 λ a3=>bR .i64 a3 λ a4=>aH (decide (0<=a4/\a4<=(a1.length:Int))) (aH (decide (0<=n0/\n0<=(a4.toNat:Int))) (cV (.call 149 [vs (List.take (a4.toNat-n0.toNat) (List.drop n0.toNat a1))] []) λ a5=>cL a5 λ a6=>aH (a6.length==2) (bm (Ul a6 0) λ a7=>bR .i64 a7 λ a8=>bm (Ul a6 1) λ a9=>bR .i64 a9 λ aa => .call (.at_ 99 1 (fw 4095) (xM aa) [] [.cells (nE 2 [] a8 0 n0) [],.cells (nE n3 l4 n5 n6 n7) [],.cells l8 []]) .ret)))) (ob l8[0]? λ ab=>bm ab λ ac=>eF ac λ ad=>ob l8[1]? λ ae=>bm ae λ af=>bR .i64 af λ ag=>aH (decide (0<=ag/\ag<=(ad.length:Int))) (aH (decide (0<=n0/\n0<=(ag.toNat:Int))) (cV (.call 150 [vs (List.take (ag.toNat-n0.toNat) (List.drop n0.toNat ad))] []) λ ah=>cL ah λ ai=>aH (ai.length==2) (bm (Ul ai 0) λ aj=>bR .u64 aj λ ak=>bm (Ul ai 1) λ al=>bR .i64 al λ am => .call (.at_ 99 1 (fw 4095) (xM am) [] [.cells (nE 3 [] 0 ak n0) [],.cells (nE n3 l4 n5 n6 n7) [],.cells l8 []]) .ret)))))):=bU
theorem u9(n0:Int)(b1:Bool)(n2:Int)(l3:mP)(n4 n5 n6:Int)(l7:mP)(n8 n9 n10:Int):EQ aF (.at_ 46 1 (fw 57151) (Me n0 b1) [] [.cells (nE n2 l3 n4 n5 n6) [],.cells (ng l7 n8 n9 n10) []]) (aM b1 (c1 (.call 99 [.p 0 0] [.cells (ng l7 n8 n9 n10) []]) 4 [] λ o0 l3=>bm o0 λ d5=>jM 5 d5 λ l6=>aH ([.d (pb l6 0),.d (pb l6 1),.d (pb l6 2),.d (pb l6 3),.d (pb l6 4)].all V.one) (.ret (.d (.g [l6.getD 0 (.b false),l6.getD 1 (.b false),l6.getD 2 (.b false),l6.getD 3 (.b false),l6.getD 4 (.b false)]),[.cells l3 []]))) (c1 (.call 95 [.p 0 0,vi 2,vi n0] [.cells (ng l7 n8 n9 n10) []]) 4 [] λ o7 l10=>cL o7 λ l12=>aH (l12.length==0) (.ret (.d (.g [.i .i64 0,.s [],.i .i64 0,.i .u64 0,.i .i64 0]),[.cells l10 []])))):=bU
theorem vd(n0 n1:Int)(b2:Bool)(n3:Int)(l4:mP)(n5 n6 n7:Int)(l8:mP)(n9 n10 n11:Int):EQ aF (.at_ 46 1 (fw 65343) (JQ n0 (.d (.i .u8 n1)) b2) [] [.cells (nE n3 l4 n5 n6 n7) [],.cells (ng l8 n9 n10 n11) []]) (aM b2 (.call (.at_ 46 1 (fw 622399) (JV n0 (.d (.i .u8 n1)) (i64.wrap (n0+1))) [] [.cells (nE n3 l4 n5 n6 n7) [],.cells (ng l8 n9 n10 n11) []]) .ret) (.call (.at_ 46 1 (fw 393023) (Kc n0 (.d (.i .u8 n1)) 0) [] [.cells (nE n3 l4 n5 n6 n7) [],.cells (ng l8 n9 n10 n11) []]) .ret)):=bU
theorem xp(l0:mP)(n1 n2 n3:Int):EQ aF (.at_ 45 1 (fw 2516) ra [] [.cells (ng l0 n1 n2 n3) []]) (aM (decide (n1<(l0.length:Int))) (ob (bJ l0 n1) λ a => .call (.at_ 45 1 (fw 25044) (K5 ((a.toNat:Int) != 10)) [] [.cells (ng l0 n1 n2 n3) []]) .ret) (.call (.at_ 45 1 (fw 25044) (K5 false) [] [.cells (ng l0 n1 n2 n3) []]) .ret)):=bU
theorem oR(n0:Int)(l1:mP)(n2 n3 n4:Int):EQ aF (.at_ 45 1 (fw 38868) (tq n0) [] [.cells (ng l1 n2 n3 n4) []]) (aM (decide (n0<(l1.length:Int))) (cV (.call 94 [vs l1,vi n0,vs [42,47]] []) λ a=>bm a λ c=>fN c λ e => .call (.at_ 45 1 (fw 399316) (sv 146 [(0,.p 0 0),(3,vi n0),(125,vb !e)]) [] [.cells (ng l1 n2 n3 n4) []]) .ret) (.call (.at_ 45 1 (fw 399316) (sv 146 [(0,.p 0 0),(3,vi n0),(125,vb false)]) [] [.cells (ng l1 n2 n3 n4) []]) .ret)):=bU
theorem ve(n0:Int)(l1:mP)(n2 n3:Int)(l4:mP)(n5 n6 n7:Int)(l8:List V):EQ aF (.at_ 97 1 (fw 351) (Lt n0 l1 n2) [] [.cells (nE n3 l4 n5 n6 n7) [],.cells l8 []]) (aM (decide (n2<(l1.length:Int))) (ob (bJ l1 n2) λ a=>aM ((a.toNat:Int)==46) (aM (n2==i64.wrap ((l1.length:Int)-1)) (.call (.at_ 97 1 (fw 12895) (H4 n0 l1 n2 true) [] [.cells (nE n3 l4 n5 n6 n7) [],.cells l8 []]) .ret) (ob (bJ l1 (i64.wrap (n2+1))) λ c => .call (.at_ 97 1 (fw 12895) (H4 n0 l1 n2 ((c.toNat:Int)==46)) [] [.cells (nE n3 l4 n5 n6 n7) [],.cells l8 []]) .ret)) (.call (.at_ 97 1 (fw 12895) (H4 n0 l1 n2 false) [] [.cells (nE n3 l4 n5 n6 n7) [],.cells l8 []]) .ret)) (.ret (.d (.g [.i .i64 1,.s l1,.i .i64 0,.i .u64 0,.i .i64 n0]),[.cells l8 []]))):=bU
theorem nI(n0:Int)(b1 b2:Bool)(n3:Int)(l4:mP)(n5 n6 n7:Int)(l8:List V):EQ aF (.at_ 99 1 (fw 3455) (QV n0 b1 b2) [] [.cells (nE n3 l4 n5 n6 n7) [],.cells l8 []]) (c1 (.call 148 [.p 0 0,vi 1] [.cells l8 []]) l8.length [] λ a c=>bm a λ e=>fN e λ f=>aM f (.call (.at_ 99 1 (fw 7551) (OA n0 b1 b2 true) [] [.cells (nE n3 l4 n5 n6 n7) [],.cells c []]) .ret) (aM b2 (c1 (.call 148 [.p 0 0,vi 2] [.cells c []]) c.length [] λ g h=>bm g λ j=>fN j λ k => .call (.at_ 99 1 (fw 7551) (OA n0 b1 b2 k) [] [.cells (nE n3 l4 n5 n6 n7) [],.cells h []]) .ret) (.call (.at_ 99 1 (fw 7551) (OA n0 b1 b2 false) [] [.cells (nE n3 l4 n5 n6 n7) [],.cells c []]) .ret))):=bU
theorem G6(n0 n1:Int)(l2:mP)(n3 n4 n5 n6:Int)(l7:mP)(n8 n9 n10:Int)(l11:List V):EQ aF (.at_ 99 1 (fw 4095) (xM n0) [] [.cells (nE n1 l2 n3 n4 n5) [],.cells (nE n6 l7 n8 n9 n10) [],.cells l11 []]) (c1 (.call 151 [.p 0 0,.d (.g [.i .i64 n1,.s l2,.i .i64 n3,.i .u64 n4,.i .i64 n5]),vi n0] [.cells l11 []]) l11.length [] λ a c=>bm a λ e=>jM 5 e λ f=>aH ([.d (pb f 0),.d (pb f 1),.d (pb f 2),.d (pb f 3),.d (pb f 4)].all V.one) (.ret (.d (.g [f.getD 0 (.b false),f.getD 1 (.b false),f.getD 2 (.b false),f.getD 3 (.b false),f.getD 4 (.b false)]),[.cells c []]))):=bU
theorem sr(n0 n1 n2 n3:Int)(l4:mP)(n5 n6 n7:Int)(l8:mP)(n9 n10 n11:Int):EQ aF (.at_ 46 1 (fw 622399) (JV n0 (.d (.i .u8 n1)) n2) [] [.cells (nE n3 l4 n5 n6 n7) [],.cells (ng l8 n9 n10 n11) []]) (aM (decide (n2<(l8.length:Int))) (ob (bJ l8 n2) λ a=>aM ((a.toNat:Int) != n1) (ob (bJ l8 n2) λ c => .call (.at_ 46 1 (fw 6389567) (OS n0 (.d (.i .u8 n1)) n2 ((c.toNat:Int) != 10)) [] [.cells (nE n3 l4 n5 n6 n7) [],.cells (ng l8 n9 n10 n11) []]) .ret) (.call (.at_ 46 1 (fw 6389567) (OS n0 (.d (.i .u8 n1)) n2 false) [] [.cells (nE n3 l4 n5 n6 n7) [],.cells (ng l8 n9 n10 n11) []]) .ret)) (.call (.at_ 46 1 (fw 6389567) (OS n0 (.d (.i .u8 n1)) n2 false) [] [.cells (nE n3 l4 n5 n6 n7) [],.cells (ng l8 n9 n10 n11) []]) .ret)):=bU
theorem nH(n0 n1 n2 n3:Int)(l4:mP)(n5 n6 n7:Int)(l8:mP)(n9 n10 n11:Int):EQ aF (.at_ 46 1 (fw 393023) (Kc n0 (.d (.i .u8 n1)) n2) [] [.cells (nE n3 l4 n5 n6 n7) [],.cells (ng l8 n9 n10 n11) []]) (aM (decide (n2<13)) (ob (bJ ([123,125,40,41,91,93,60,62,44,59,58,61,42]:mP) n2) λ c0=>aM ((c0.toNat:Int)==n1) (aH (decide (0<=i64.wrap (n0+1)/\i64.wrap (n0+1)<=(l8.length:Int))) (aH (decide (0<=n0/\n0<=((i64.wrap (n0+1)).toNat:Int))) (.ret (.d (.g [.i .i64 5,.s (List.take ((i64.wrap (n0+1)).toNat-n0.toNat) (List.drop n0.toNat l8)),.i .i64 0,.i .u64 0,.i .i64 n0]),[.cells (ng l8 (i64.wrap (n9+1)) n10 n11) []])))) (.call (.at_ 46 1 (fw 393023) (Kc n0 (.d (.i .u8 n1)) (i64.wrap (n2+1))) [] [.cells (nE n3 l4 n5 n6 n7) [],.cells (ng l8 n9 n10 n11) []]) .ret)) (c1 (.call 95 [.p 0 0,vi 2,vi n0] [.cells (ng l8 n9 n10 n11) []]) 4 [] λ o1 l4=>cL o1 λ l6=>aH (l6.length==0) (.ret (.d (.g [.i .i64 0,.s [],.i .i64 0,.i .u64 0,.i .i64 0]),[.cells l4 []])))):=bU
theorem uZ(b0:Bool)(l1:mP)(n2 n3 n4:Int):EQ aF (.at_ 45 1 (fw 25044) (K5 b0) [] [.cells (ng l1 n2 n3 n4) []]) (aM b0 (.call (.at_ 45 1 (fw 2516) ra [] [.cells (ng l1 (i64.wrap (n2+1)) n3 n4) []]) .ret) (.call (.at_ 45 1 (fw 2) ra [] [.cells (ng l1 n2 n3 n4) []]) .ret)):=bU
theorem nG(n0:Int)(b1:Bool)(l2:mP)(n3 n4 n5:Int):EQ aF (.at_ 45 1 (fw 399316) (sv 146 [(0,.p 0 0),(3,vi n0),(125,vb b1)]) [] [.cells (ng l2 n3 n4 n5) []]) (aM b1 (.call (.at_ 45 1 (fw 38868) (tq (i64.wrap (n0+1))) [] [.cells (ng l2 n3 n4 n5) []]) .ret) (aM (decide (n0 ≥ (l2.length:Int))) (c1 (.call 95 [.p 0 0,vi 2,vi n3] [.cells (ng l2 n3 n4 n5) []]) 4 [] λ a c=>cL a λ e=>aH (e.length==0) (.ret (.t [],[.cells c []]))) (.call (.at_ 45 1 (fw 2) ra [] [.cells (ng l2 (i64.wrap (n0+2)) n4 n5) []]) .ret))):=bU
theorem qw(n0:Int)(l1:mP)(n2:Int)(b3:Bool)(n4:Int)(l5:mP)(n6 n7 n8:Int)(l9:List V):EQ aF (.at_ 97 1 (fw 12895) (H4 n0 l1 n2 b3) [] [.cells (nE n4 l5 n6 n7 n8) [],.cells l9 []]) (aM b3 (c1 (.call 95 [.p 0 0,vi 2,vi n0] [.cells l9 []]) l9.length [] λ a c=>cL a λ e=>aH (e.length==0) (.call (.at_ 97 1 (fw 351) (Lt n0 l1 (i64.wrap (n2+1))) [] [.cells (nE n4 l5 n6 n7 n8) [],.cells c []]) .ret)) (.call (.at_ 97 1 (fw 351) (Lt n0 l1 (i64.wrap (n2+1))) [] [.cells (nE n4 l5 n6 n7 n8) [],.cells l9 []]) .ret)):=bU
theorem nJ(n0:Int)(b_1 b_2 b_3:Bool)(n4:Int)(l5:mP)(n6 n7 n8:Int)(l9:List V):EQ aF (.at_ 99 1 (fw 7551) (OA n0 b_1 b_2 b_3) [] [.cells (nE n4 l5 n6 n7 n8) [],.cells l9 []]) (aM b_3 (ob l9[1]? λ a=>bm a λ c=>bR .i64 c λ e=>aH (decide (1<l9.length)&&true) (aM b_2 (ob (l9.set 1 (vi (i64.wrap (e+1))))[1]? λ f=>bm f λ g=>bR .i64 g λ h=>aH (decide (1<(l9.set 1 (vi (i64.wrap (e+1)))).length)&&true) (c1 (.call 147 [.p 0 0] [.cells ((l9.set 1 (vi (i64.wrap (e+1)))).set 1 (vi (i64.wrap (h+1)))) []]) (((l9.set 1 (vi (i64.wrap (e+1)))).set 1 (vi (i64.wrap (h+1)))).length) [] λ j k=>bm j λ l=>fN l λ m=>ob k[0]? λ n=>bm n λ o=>eF o λ q=>ob k[1]? λ r=>bm r λ t=>bR .i64 t λ zu=>aH (decide (0<=zu/\zu<=(q.length:Int))) (aH (decide (0<=n0/\n0<=(zu.toNat:Int))) (cV (.call 150 [vs (List.take (zu.toNat-n0.toNat) (List.drop n0.toNat q))] []) λ v=>cL v λ w=>aH (w.length==2) (bm (Ul w 0) λ x=>bR .u64 x λ y=>bm (Ul w 1) λ z=>bR .i64 z λ a0 => .call (.at_ 99 1 (fw 4095) (xM a0) [] [.cells (nE 3 [] 0 y n0) [],.cells (nE n4 l5 n6 n7 n8) [],.cells k []]) .ret))))) (c1 (.call 147 [.p 0 0] [.cells (l9.set 1 (vi (i64.wrap (e+1)))) []]) ((l9.set 1 (vi (i64.wrap (e+1)))).length) [] λ a1 a2=>bm a1 λ a3=>fN a3 λ a4=>ob a2[0]? λ a5=>bm a5 λ a6=>eF a6 λ a7=>ob a2[1]? λ a8=>bm a8 λ a9=>bR .i64 a9 λ aa=>aH (decide (0<=aa/\aa<=(a7.length:Int))) (aH (decide (0<=n0/\n0<=(aa.toNat:Int))) (cV (.call 150 [vs (List.take (aa.toNat-n0.toNat) (List.drop n0.toNat a7))] []) λ ab=>cL ab λ ac=>aH (ac.length==2) (bm (Ul ac 0) λ ad=>bR .u64 ad λ ae=>bm (Ul ac 1) λ af=>bR .i64 af λ ag => .call (.at_ 99 1 (fw 4095) (xM ag) [] [.cells (nE 3 [] 0 ae n0) [],.cells (nE n4 l5 n6 n7 n8) [],.cells a2 []]) .ret)))))) (aM b_1 (ob l9[0]? λ ah=>bm ah λ ai=>eF ai λ aj=>ob l9[1]? λ ak=>bm ak λ al=>bR .i64 al λ am=>aH (decide (0<=am/\am<=(aj.length:Int))) (aH (decide (0<=n0/\n0<=(am.toNat:Int))) (cV (.call 149 [vs (List.take (am.toNat-n0.toNat) (List.drop n0.toNat aj))] []) λ an=>cL an λ ao=>aH (ao.length==2) (bm (Ul ao 0) λ ap=>bR .i64 ap λ aq=>bm (Ul ao 1) λ ar=>bR .i64 ar λ au => .call (.at_ 99 1 (fw 4095) (xM au) [] [.cells (nE 2 [] aq 0 n0) [],.cells (nE n4 l5 n6 n7 n8) [],.cells l9 []]) .ret)))) (ob l9[0]? λ av=>bm av λ aw=>eF aw λ ax=>ob l9[1]? λ ay=>bm ay λ az=>bR .i64 az λ b0=>aH (decide (0<=b0/\b0<=(ax.length:Int))) (aH (decide (0<=n0/\n0<=(b0.toNat:Int))) (cV (.call 150 [vs (List.take (b0.toNat-n0.toNat) (List.drop n0.toNat ax))] []) λ b1=>cL b1 λ b2=>aH (b2.length==2) (bm (Ul b2 0) λ b3=>bR .u64 b3 λ b4=>bm (Ul b2 1) λ b5=>bR .i64 b5 λ b6 => .call (.at_ 99 1 (fw 4095) (xM b6) [] [.cells (nE 3 [] 0 b4 n0) [],.cells (nE n4 l5 n6 n7 n8) [],.cells l9 []]) .ret)))))):=bU
theorem mf(n0 n1 n2:Int)(b3:Bool)(n4:Int)(l5:mP)(n6 n7 n8:Int)(l9:mP)(n10 n11 n12:Int):EQ aF (.at_ 46 1 (fw 6389567) (OS n0 (.d (.i .u8 n1)) n2 b3) [] [.cells (nE n4 l5 n6 n7 n8) [],.cells (ng l9 n10 n11 n12) []]) (aM b3 (.call (.at_ 46 1 (fw 622399) (JV n0 (.d (.i .u8 n1)) (i64.wrap (n2+1))) [] [.cells (nE n4 l5 n6 n7 n8) [],.cells (ng l9 n10 n11 n12) []]) .ret) (aM (n2==(l9.length:Int)) (.call (.at_ 46 1 (fw 1802047) (JN n0 n2 true) [] [.cells (nE n4 l5 n6 n7 n8) [],.cells (ng l9 n10 n11 n12) []]) .ret) (ob (bJ l9 n2) λ a => .call (.at_ 46 1 (fw 1802047) (JN n0 n2 ((a.toNat:Int)==10)) [] [.cells (nE n4 l5 n6 n7 n8) [],.cells (ng l9 n10 n11 n12) []]) .ret))):=bU
theorem qv(n0 n1:Int)(b2:Bool)(n3:Int)(l4:mP)(n5 n6 n7:Int)(l8:mP)(n9 n10 n11:Int):EQ aF (.at_ 46 1 (fw 1802047) (JN n0 n1 b2) [] [.cells (nE n3 l4 n5 n6 n7) [],.cells (ng l8 n9 n10 n11) []]) (aM b2 (c1 (.call 95 [.p 0 0,vi 2,vi n0] [.cells (ng l8 n9 n10 n11) []]) 4 [] λ a c=>cL a λ e=>aH (e.length==0) (.ret (.d (.g [.i .i64 0,.s [],.i .i64 0,.i .u64 0,.i .i64 0]),[.cells c []]))) (aH (decide (0<=n1/\n1<=(l8.length:Int))) (aH (decide (0<=i64.wrap (n0+1)/\i64.wrap (n0+1)<=(n1.toNat:Int))) (.ret (.d (.g [.i .i64 4,.s (List.take (n1.toNat-(i64.wrap (n0+1)).toNat) (List.drop (i64.wrap (n0+1)).toNat l8)),.i .i64 0,.i .u64 0,.i .i64 n0]),[.cells (ng l8 (i64.wrap (n1+1)) n10 n11) []]))))):=bU
def aW(s:mP)(i e a:Int):Ob := .cells [.d (.s s),.d (.i .i64 i),.d (.i .i64 e),.d (.i .i64 a)] []
theorem drop_at{s:mP}{i:Nat}(h:i<s.length):∃c,s.drop i=c::s.drop (i+1)/\bJ s (i:Int)=some c:=
 ⟨s[i],List.drop_eq_getElem_cons h,by rw[bQ,List.getElem?_eq_getElem h]⟩
theorem Cd(c:UInt8):rk prog aF (.call 96 [V.d (D.i .u8 (c.toNat:Int))] [])=some (.d (.b (jK c)),[]):=by
 have Tj:((c.toNat:Int)==95)=(c==95):=cd c 95;have fin:jK c=((decide (97<=c.toNat)&&decide (c.toNat<=122))||(decide (65<=c.toNat)&&decide (c.toNat<=90))||c==95):=by unfold jK;cases (c==95)<;>cases decide (97<=c.toNat)<;>cases decide (c.toNat<=122)<;>cases decide (65<=c.toNat)<;>cases decide (c.toNat<=90)<;>rfl
 rw[XX,fin];by_cases h1:97<=c.toNat
 ·rw[bz];by_cases h2:c.toNat<=122
  ·rw[bz,aD,decide_eq_true h1,decide_eq_true h2];rfl
  ·rw[bn,bz,bn,aD,decide_eq_false h2,decide_eq_false (show ¬c.toNat<=90 by omega),Bool.and_false,Bool.and_false,Tj];rfl
 ·rw[bn,decide_eq_false h1];by_cases h3:65<=c.toNat
  ·rw[bz];by_cases h4:c.toNat<=90
   ·rw[bz,aD,decide_eq_true h3,decide_eq_true h4];rfl
   ·rw[bn,aD,decide_eq_false h4,Bool.and_false,Tj];rfl
  ·rw[bn,aD,decide_eq_false h3,Tj];rfl
theorem oO(c:UInt8):rk prog aF (.call 98 [V.d (D.i .u8 (c.toNat:Int))] [])=some (.d (.b (aG c)),[]):=by
 rw[XZ];unfold aG;have d57:decide ((c.toNat:Int)<=57)=decide (c.toNat<=57):=by congr 1;exact propext (by omega)
 by_cases h:48<=c.toNat
 ·rw[bz,aD,d57,decide_eq_true h];rfl
 ·rw[bn,aD,decide_eq_false h];rfl
theorem Nv(c:UInt8):rk prog aF (.call 145 [V.d (D.i .u8 (c.toNat:Int))] [])=some (.d (.i .i64 (if dV c=true then(cG c:Int)else -1)),[]):=by
 have hlt:=c.toNat_lt;have last:∀b:Bool,b=decide (65<=c.toNat/\c.toNat<=70)->dV c=b->¬(97<=c.toNat)->¬c.toNat<=57->
   rk prog aF (.at_ 145 0 (fw 505) (sv 31 [(0,V.d (D.i .u8 (c.toNat:Int))),(20,vb b)]) [] [])=some (.d (.i .i64 (if dV c=true then(cG c:Int)else -1)),[]):=by
  intro b hb hx h1 h2;rw[qY,hx]
  cases b with
  |false=>rw[bo,aD];rfl
  |true=>
   have h3:=of_decide_eq_true hb.symm;have w1:u8.wrap ((c.toNat:Int)-65)=(c.toNat:Int)-65:=by rw[wrap_u8]<;>omega
   have w2:i64.wrap ((c.toNat:Int)-65)=(c.toNat:Int)-65:=U5;have w3:i64.wrap ((c.toNat:Int)-65+10)=(cG c:Int):=by unfold cG;rw[if_neg h2,if_neg h1,wrap_i64]<;>omega
   rw[bF,aD,w1,w2,w3];rfl
 rw[Wp,dH (oO c)];have hB:dV c=(aG c||(decide (97<=c.toNat)&&decide (c.toNat<=102))||(decide (65<=c.toNat)&&decide (c.toNat<=70))):=rfl
 cases hd:aG c with
 |true=>
  have:=(eS c).1 hd;have w1:u8.wrap ((c.toNat:Int)-48)=(c.toNat:Int)-48:=by rw[wrap_u8]<;>omega
  have w2:i64.wrap ((c.toNat:Int)-48)=(cG c:Int):=by unfold cG;rw[if_pos (by omega),wrap_i64]<;>omega
  rw[bF,aD,w1,w2,hB,hd];rfl
 |false=>
  have hnd:¬(48<=c.toNat/\c.toNat<=57):=λ h=>by have:=(eS c).2 h;rw[hd]at this;cases this
  rw[hd,Bool.false_or]at hB;rw[bo];by_cases h1:97<=c.toNat
  ·rw[decide_eq_true h1,Bool.true_and]at hB;rw[bz,aA,xk];by_cases h2:c.toNat<=102
   ·have w1:u8.wrap ((c.toNat:Int)-97)=(c.toNat:Int)-97:=by rw[wrap_u8]<;>omega
    have w2:i64.wrap ((c.toNat:Int)-97)=(c.toNat:Int)-97:=U5;have w3:i64.wrap ((c.toNat:Int)-97+10)=(cG c:Int):=by unfold cG;rw[UM,if_pos h1,wrap_i64]<;>omega
    rw[decide_eq_true h2]at hB;rw[decide_eq_true (show (c.toNat:Int)<=102 by omega),bF,aD,w1,w2,w3,hB];rfl
   ·rw[decide_eq_false h2,decide_eq_false (show ¬c.toNat<=70 by omega)]at hB
    have hB':dV c=false:=by rw[hB];simp
    rw[decide_eq_false (show ¬(c.toNat:Int)<=102 by omega),bo,bz,aA,decide_eq_false (show ¬(c.toNat:Int)<=70 by omega),qY,bo,aD,hB'];rfl
  ·rw[decide_eq_false h1,Bool.false_and,Bool.false_or]at hB;rw[bn,aA,xk,bo];by_cases h3:65<=c.toNat
   ·have d70:decide ((c.toNat:Int)<=70)=decide (c.toNat<=70):=by congr 1;exact propext (by omega)
    rw[decide_eq_true h3,Bool.true_and]at hB;rw[bz,aA,d70];exact last _ (by congr 1;exact propext (by omega)) hB h1 (by omega)
   ·rw[decide_eq_false h3,Bool.false_and]at hB;rw[bn,aA,qY,bo,aD,hB];rfl
theorem tm(s t:mP)(a:Nat)(ha:a<=s.length)(hs:s.length<=100000)(ht:t.length<=100):rk prog aF (.call 94 [vs s,vi (a:Int),vs t] [])=some (.d (.b ((s.drop a).take t.length==t)),[]):=by
 have w:i64.wrap ((a:Int)+(t.length:Int))=((a+t.length:Nat):Int):=U5;rw[XW,w];by_cases h:a+t.length<=s.length
 ·rw[bz,aJ,aJ,aD,Int.toNat_natCast,Int.toNat_natCast,Nat.add_sub_cancel_left]
 ·have hne:((s.drop a).take t.length==t)=false:=by rw[beq_eq_false_iff_ne];intro e;have:=congrArg List.length e;rw[List.length_take,List.length_drop]at this;omega
  rw[bn,aD,hne]
theorem Df(c:UInt8)(q:mP)(x y:UInt8):((c::q).take 2==[x,y])=decide (c=x/\q.head?=some y):=by
 rw[Bool.eq_iff_iff,beq_iff_eq,decide_eq_true_iff]
 cases q with
 |nil=>simp
 |cons d q=>simp
theorem lL(s:mP)(i e a n m:Int):rk prog aF (.call 95 [V.p 0 0,vi n,vi m] [aW s i e a])=some (.t [],[aW s i n m]):=by unfold aW;rw[Tj,aD]
theorem sk(s:mP)(hs:s.length<=100000)(e a:Int)(n0:Nat):∀(m i:Nat),i+m=s.length->
  rk prog aF (.at_ 147 1 (fw 19) (GR (n0:Int)) [] [aW s (i:Int) e a])=
   some (.d (.b (decide (n0<i+((s.drop i).takeWhile aG).length))),[aW s ((i+((s.drop i).takeWhile aG).length:Nat):Int) e a])
 |0,i,h=>by
  unfold aW;rw[Aq,bn,aA,xl,bo,aD,List.drop_eq_nil_of_le (by omega)];rw[show decide ((i:Int)>(n0:Int))=decide (n0<i+(List.takeWhile aG []).length) by congr 1;exact propext (by simp)];rfl
 |m+1,i,h=>by
  obtain⟨c,hd,hg⟩:=drop_at (show i<s.length by omega);have ih:=sk s hs e a n0 m (i+1) (by omega);have w1:=Wv i;unfold aW at ih⊢;rw[Aq,bz,aR hg,dH (oO c),aA,xl,hd,List.takeWhile_cons]
  cases hc:aG c with
  |true=>
   rw[bF,w1,aA,ih,if_pos rfl,List.length_cons,show i+1+((s.drop (i+1)).takeWhile aG).length=i+(((s.drop (i+1)).takeWhile aG).length+1) by omega]
  |false=>
   rw[bo,aD,if_neg (by decide),List.length_nil,Nat.add_zero];rw[show decide ((i:Int)>(n0:Int))=decide (n0<i) by congr 1;exact propext (by omega)]
theorem tS(s:mP)(hs:s.length<=100000)(i:Nat)(hi:i<=s.length)(e a:Int):
  rk prog aF (.call 147 [V.p 0 0] [aW s (i:Int) e a])=some (.d (.b (decide ((s.drop i).takeWhile aG≠[]))),[aW s ((i+((s.drop i).takeWhile aG).length:Nat):Int) e a]):=by
 have h:=sk s hs e a i (s.length-i) i (by omega);have e1:decide (i<i+((s.drop i).takeWhile aG).length)=decide ((s.drop i).takeWhile aG≠[]):=by congr 1;apply propext;rw[<-List.length_pos_iff];omega
 rw[<-e1,<-h];unfold aW;rw[Ws,aA]
theorem GZ(s:mP)(hs:s.length<=100000)(i n:Nat)(hi:i<=s.length)(hn:n<=100)(e a:Int):
  rk prog aF (.call 148 [V.p 0 0,vi (n:Int)] [aW s (i:Int) e a])=some (.d (.b (aG ((s.drop i).getD n 0))),[aW s (i:Int) e a]):=by
 have w1:i64.wrap ((i:Int)+(n:Int))=((i+n:Nat):Int):=U5;have hg:(s.drop i).getD n 0=s.getD (i+n) 0:=by rw[List.getD_eq_getElem?_getD,List.getD_eq_getElem?_getD,List.getElem?_drop]
 unfold aW;rw[Wt,w1,hg];by_cases h:i+n<s.length
 ·have g:bJ s ((i+n:Nat):Int)=some (s.getD (i+n) 0):=by rw[bQ,List.getD_eq_getElem?_getD,List.getElem?_eq_getElem h];rfl
  rw[bz,aR g,dH (oO _),aD]
 ·have g:s.getD (i+n) 0=0:=by rw[List.getD_eq_getElem?_getD,List.getElem?_eq_none (by omega)];rfl
  rw[bn,aD,g];rfl
abbrev wk(o:Ob):Task:=Task.at_ 45 1 (fw 2) ra [] [o]
theorem A0(s:mP)(hs:s.length<=100000)(e a:Int):∀(m i:Nat),i+m=s.length->
  rk prog aF (.at_ 45 1 (fw 2516) ra [] [aW s (i:Int) e a])=
   rk prog aF (wk (aW s ((i+((s.drop i).takeWhile (· != 10)).length:Nat):Int) e a))
 |0,i,h=>by
  unfold aW;rw[xp,bn,aA,uZ,bo,aA,List.drop_eq_nil_of_le (by omega)];rfl
 |m+1,i,h=>by
  obtain⟨c,hd,hg⟩:=drop_at (show i<s.length by omega);have ih:=A0 s hs e a m (i+1) (by omega);have w1:=Wv i;have e10:((c.toNat:Int) != 10)=(c != 10):=by rw[bne,bne,show ((c.toNat:Int)==10)=(c==10)from cd c 10]
  unfold aW at ih⊢;rw[xp,bz,aR hg,aA,uZ,e10,hd,List.takeWhile_cons]
  cases hc:(c != 10) with
  |true=>rw[bF,w1,aA,ih,if_pos rfl,List.length_cons,show i+1+((s.drop (i+1)).takeWhile (· != 10)).length=i+(((s.drop (i+1)).takeWhile (· != 10)).length+1) by omega]
  |false=>rw[bo,aA,if_neg (by decide),List.length_nil,Nat.add_zero]
theorem Ba(s:mP)(hs:s.length<=100000)(p:Nat)(a:Int):∀(m k:Nat),k+m=s.length->
  rk prog aF (.at_ 45 1 (fw 38868) (tq (k:Int)) [] [aW s (p:Int) 0 a])=
   match q9 (s.drop k) with
   |none=>some (.t [],[aW s (p:Int) 2 (p:Int)])
   |some n=>rk prog aF (wk (aW s ((k+n:Nat):Int) 0 a))
 |0,k,h=>by
  have hf:=lL s (p:Int) 0 a 2 (p:Int);rw[List.drop_eq_nil_of_le (by omega)];unfold aW at hf⊢;rw[oR,bn,aA,nG,bo,bz,cr hf (by rfl) (by rfl),aD];rfl
 |m+1,k,h=>by
  obtain⟨c,hd,hg⟩:=drop_at (show k<s.length by omega);have ih:=Ba s hs p a m (k+1) (by omega);have hst:=tm s [42,47] k (by omega) hs (by decide);have hl:([42,47]:mP).length=2:=rfl;rw[hl,hd,Df]at hst;have w1:=Wv k;have w2:i64.wrap ((k:Int)+2)=((k+2:Nat):Int):=U5;rw[hd];unfold q9;by_cases hc:c=42/\(s.drop (k+1)).head?=some 47
  ·rw[decide_eq_true hc]at hst;rw[if_pos hc];unfold aW;rw[oR,bz,dH hst,aA,nG,Bool.not_true,bo,bn,w2,aA]
  ·rw[decide_eq_false hc]at hst;rw[if_neg hc];have go:rk prog aF (.at_ 45 1 (fw 38868) (tq (k:Int)) [] [aW s (p:Int) 0 a])=
     rk prog aF (.at_ 45 1 (fw 38868) (tq ((k+1:Nat):Int)) [] [aW s (p:Int) 0 a]):=by
    unfold aW;rw[oR,bz,dH hst,aA,nG,Bool.not_false,bF,w1,aA]
   rw[go,ih]
   cases q9 (s.drop (k+1)) with
   |none=>rfl
   |some n=>
    show _=rk prog aF (wk (aW s ((k+(n+1):Nat):Int) 0 a));rw[show k+(n+1)=k+1+n by omega]
theorem xj(s:mP)(i:Nat)(hi:s.length<=i)(e a:Int):rk prog aF (wk (aW s (i:Int) e a))=some (.t [],[aW s (i:Int) e a]):=by unfold wk aW;rw[Ce,bn,aA,xo,bo,aD]
theorem Ao(s:mP)(hs:s.length<=100000)(i:Nat)(a:Int)(c:UInt8)(hi:i<s.length)(hg:bJ s (i:Int)=some c)(hc:wL c=true):
  rk prog aF (wk (aW s (i:Int) 0 a))=rk prog aF (wk (aW s ((i+1:Nat):Int) 0 a)):=by
 have w1:=Wv i;have e9:((c.toNat:Int)==9)=(c==9):=cd c 9;have e10:((c.toNat:Int)==10)=(c==10):=cd c 10;have e13:((c.toNat:Int)==13)=(c==13):=cd c 13;have e32:((c.toNat:Int)==32)=(c==32):=cd c 32;unfold wL at hc;unfold wk aW;rw[Ce,bz,aA,beq_self_eq_true,xo,bF,aR hg,e9]
 cases h9:(c==9) with
 |true=>rw[bF,aA,jS,bF,w1,aA]
 |false=>
  rw[bo,e10]
  cases h10:(c==10) with
  |true=>rw[bF,aA,jS,bF,w1,aA]
  |false=>
   rw[bo,e13]
   cases h13:(c==13) with
   |true=>rw[bF,aA,jS,bF,w1,aA]
   |false=>
    rw[h9,h10,h13,Bool.false_or,Bool.false_or,Bool.false_or]at hc;rw[bo,e32,hc,aA,jS,bF,w1,aA]
theorem K3(s:mP)(i:Nat)(a:Int)(c:UInt8)(hi:i<s.length)(hg:bJ s (i:Int)=some c)(hc:wL c=false):
  rk prog aF (wk (aW s (i:Int) 0 a))=rk prog aF (.at_ 45 1 (fw 212) (ug (V.d (D.i .u8 (c.toNat:Int))) false) [] [aW s (i:Int) 0 a]):=by
 have e9:((c.toNat:Int)==9)=(c==9):=cd c 9;have e10:((c.toNat:Int)==10)=(c==10):=cd c 10;have e13:((c.toNat:Int)==13)=(c==13):=cd c 13;have e32:((c.toNat:Int)==32)=(c==32):=cd c 32;unfold wL at hc;simp only[Bool.or_eq_false_iff]at hc;obtain⟨⟨⟨h9,h10⟩,h13⟩,h32⟩:=hc;unfold wk aW;rw[Ce,bz,aA,beq_self_eq_true,xo,bF,aR hg,e9,h9,bo,e10,h10,bo,e13,h13,bo,e32,h32,aA]
theorem D2(s:mP)(hs:s.length<=100000)(a:Int)(b:Nat):∀(f k:Nat),s.length<=b+k+f->b+k<=s.length->
  match eV f (s.drop (b+k)) k with
  |(k',false)=>rk prog aF (wk (aW s ((b+k:Nat):Int) 0 a))=some (.t [],[aW s ((b+k':Nat):Int) 2 ((b+k':Nat):Int)])
  |(k',true)=>rk prog aF (wk (aW s ((b+k:Nat):Int) 0 a))=some (.t [],[aW s ((b+k':Nat):Int) 0 a])
 |0,k,hf,hk=>xj s (b+k) (by omega) 0 a
 |f+1,k,hf,hk=>by
  unfold eV;rcases Nat.lt_or_ge (b+k) s.length with hlt|hge
  ·obtain⟨c,hd,hg⟩:=drop_at hlt;have hln:=(lr (s.drop (b+k))).1;have hln1:=(lr (s.drop (b+k))).2 (by rw[hd];simp);have hdl:(s.drop (b+k)).length=s.length-(b+k):=List.length_drop ..;have nxt:∀m:Nat,1<=m->b+k+m<=s.length->rk prog aF (wk (aW s ((b+k:Nat):Int) 0 a))=rk prog aF (wk (aW s ((b+k+m:Nat):Int) 0 a))->
     match eV f ((s.drop (b+k)).drop m) (k+m) with
     |(k',false)=>rk prog aF (wk (aW s ((b+k:Nat):Int) 0 a))=some (.t [],[aW s ((b+k':Nat):Int) 2 ((b+k':Nat):Int)])
     |(k',true)=>rk prog aF (wk (aW s ((b+k:Nat):Int) 0 a))=some (.t [],[aW s ((b+k':Nat):Int) 0 a]):=by
    intro m h1 h2 h3;have ih:=D2 s hs a b f (k+m) (by omega) (by omega);rw[h3,List.drop_drop,Nat.add_assoc];exact ih
   have st1:=tm s [47,47] (b+k) (by omega) hs (by decide);have st2:=tm s [47,42] (b+k) (by omega) hs (by decide);have hl1:([47,47]:mP).length=2:=rfl;have hl2:([47,42]:mP).length=2:=rfl;rw[hl1,hd,Df]at st1;rw[hl2,hd,Df]at st2;have e35:((c.toNat:Int)==35)=(c==35):=cd c 35
   cases hsp:wL c with
   |true=>
    rw[hd];simp only[hsp,if_true];have:=nxt 1 (by omega) (by omega) (Ao s hs (b+k) a c hlt hg hsp);rw[hd]at this;exact this
   |false=>
    have h0:=K3 s (b+k) a c hlt hg hsp;have line:(c=35\/(c=47/\(s.drop (b+k+1)).head?=some 47))->rk prog aF (wk (aW s ((b+k:Nat):Int) 0 a))=rk prog aF (wk (aW s ((b+k+kz (s.drop (b+k)):Nat):Int) 0 a)):=by
     intro h;have hL:=A0 s hs 0 a (s.length-(b+k)) (b+k) (by omega);have hto:rk prog aF (wk (aW s ((b+k:Nat):Int) 0 a))=rk prog aF (wk (aW s ((b+k+((s.drop (b+k)).takeWhile (· != 10)).length:Nat):Int) 0 a)):=by
      rw[h0,<-hL];unfold aW;rw[jS,bo,e35];by_cases h35:c=35
      ·rw[dz (beq_iff_eq.2 h35),aA,pU,bF,aA]
      ·have h47:c=47/\(s.drop (b+k+1)).head?=some 47:=h.resolve_left h35;rw[decide_eq_true h47]at st1;rw[cF (beq_eq_false_iff_ne.2 h35),dH st1,aA,pU,bF,aA]
     rw[hto];unfold kz;have hsum:((s.drop (b+k)).takeWhile (· != 10)).length+((s.drop (b+k)).dropWhile (· != 10)).length=(s.drop (b+k)).length:=by
      have:=congrArg List.length (List.takeWhile_append_dropWhile (p:=(· != (10:UInt8))) (l:=s.drop (b+k)))
      rwa[List.length_append]at this
     by_cases hnil:(s.drop (b+k)).dropWhile (· != 10)=[]
     ·rw[if_pos hnil];rw[hnil,List.length_nil]at hsum;rw[show ((s.drop (b+k)).takeWhile (· != 10)).length=(s.drop (b+k)).length by omega]
     ·rw[if_neg hnil,<-Nat.add_assoc];have hpos:0<((s.drop (b+k)).dropWhile (· != 10)).length:=List.length_pos_iff.2 hnil;have h10:bJ s ((b+k+((s.drop (b+k)).takeWhile (· != 10)).length:Nat):Int)=some 10:=by
       have h1:=List.head?_dropWhile_not (λ x:UInt8=>x != 10) (s.drop (b+k));have h2:s.drop (b+k+((s.drop (b+k)).takeWhile (· != 10)).length)=(s.drop (b+k)).dropWhile (· != 10):=by
        rw[<-List.drop_drop];have h3:=List.takeWhile_append_dropWhile (p:=(· != (10:UInt8))) (l:=s.drop (b+k))
        calc (s.drop (b+k)).drop ((s.drop (b+k)).takeWhile (· != 10)).length
          = ((s.drop (b+k)).takeWhile (· != 10)++(s.drop (b+k)).dropWhile (· != 10)).drop ((s.drop (b+k)).takeWhile (· != 10)).length:=by rw[h3]
         _=_:=by rw[List.drop_left]
       rw[bQ,<-List.head?_drop,h2]
       cases hh:((s.drop (b+k)).dropWhile (· != 10)).head? with
       |none=>rw[List.head?_eq_none_iff]at hh;exact absurd hh hnil
       |some x=>
        rw[hh]at h1;simp at h1;rw[h1]
      exact Ao s hs _ a 10 (by omega) h10 (by rfl)
    rw[hd]at hln hln1 hdl line nxt;rw[hd];simp only[hsp,Bool.false_eq_true,if_false];by_cases h2:c=35\/(c=47/\(s.drop (b+k+1)).head?=some 47)
    ·rw[if_pos h2];exact nxt _ (by omega) (by omega) (line h2)
    ·rw[if_neg h2];have h35:c≠35:=λ e=>h2 (Or.inl e);have hn1:¬(c=47/\(s.drop (b+k+1)).head?=some 47):=λ e=>h2 (Or.inr e);rw[decide_eq_false hn1]at st1;by_cases h3:c=47/\(s.drop (b+k+1)).head?=some 42
     ·rw[if_pos h3];rw[decide_eq_true h3]at st2;have hlen1:b+k+2<=s.length:=by
       rcases Nat.lt_or_ge (b+k+1) s.length with h|h
       ·omega
       ·rw[List.drop_eq_nil_of_le h]at h3;exact absurd h3.2 (by simp)
      have w2:i64.wrap (((b+k:Nat):Int)+2)=((b+k+2:Nat):Int):=U5;have hN:=Ba s hs (b+k) a (s.length-(b+k+2)) (b+k+2) (by omega);have hto:rk prog aF (wk (aW s ((b+k:Nat):Int) 0 a))=rk prog aF (.at_ 45 1 (fw 38868) (tq ((b+k+2:Nat):Int)) [] [aW s ((b+k:Nat):Int) 0 a]):=by rw[h0];unfold aW;rw[jS,bo,e35,cF (beq_eq_false_iff_ne.2 h35),dH st1,aA,pU,bo,dH st2,bF,w2,aA]
      have hdd:(s.drop (b+k+1)).drop 1=s.drop (b+k+2):=by rw[List.drop_drop]
      rw[hdd]
      cases he:q9 (s.drop (b+k+2)) with
      |none=>
       rw[he]at hN;exact hto.trans hN
      |some n=>
       rw[he]at hN;have hn:=wm _ _ he;rw[List.length_drop]at hn;refine nxt (2+n) (by omega) (by omega) ?_;rw[hto,show b+k+(2+n)=b+k+2+n by omega];exact hN
     ·rw[if_neg h3];rw[decide_eq_false h3]at st2;show rk prog aF (wk (aW s ((b+k:Nat):Int) 0 a))=_;rw[h0];unfold aW;rw[jS,bo,e35,cF (beq_eq_false_iff_ne.2 h35),dH st1,aA,pU,bo,dH st2,bo,aD]
  ·have:=xj s (b+k) hge 0 a;rw[List.drop_eq_nil_of_le hge];exact this
theorem f58(b:Bool)(xs:List D):EQ aF (.call 152 [vl b xs] []) (.call (.at_ 152 0 (fw 19) (sv 23 [(0,vl b xs),(3,vi (xs.length:Int))]) [] []) .ret):=bU
theorem WB(n:Nat)(cs:List V):EQ aF (.call 152 [.m 0 0 n] [.cells cs []]) (.call (.at_ 152 1 (fw 19) (sv 23 [(0,.m 0 0 n),(3,vi (n:Int))]) [] [.cells cs []]) .ret):=bU
theorem f30(n:Int):EQ aF (.call 101 [vu n] []) (cV (.call 152 [vl true [.i .u32 (u32.wrap n),.i .u32 (u32.wrap (n.fdiv 4294967296))]] []) λ a=>bm a λ b=>fT b λ c e => .ret (vl c e,[])):=bU
theorem f31(n:Int):EQ aF (.call 106 [vi n] []) (aM (decide (n<0)) (.ret (vl true [],[])) (.call (.at_ 106 0 (fw 87) (sv 17 [(0,vi n),(3,vl true [.i .u32 1]),(4,vi 0)]) [] []) .ret)):=bU
theorem f29(b:Bool)(xs:List D)(c:Bool)(ys:List D):EQ aF (.call 105 [vl b xs,vl c ys] []) (aH (decide (0<=i64.wrap (i64.wrap ((xs.length:Int)+(ys.length:Int))+1))) (aH (decide (i64.wrap (i64.wrap ((xs.length:Int)+(ys.length:Int))+1)=i64.wrap (i64.wrap ((xs.length:Int)+(ys.length:Int))+1))) (aH (decide (i64.wrap (i64.wrap ((xs.length:Int)+(ys.length:Int))+1)<=4294967296)) (.call (.at_ 105 0 (fw 43) (sv 68 [(0,vl b xs),(1,vl c ys),(5,.m 0 0 (i64.wrap (i64.wrap ((xs.length:Int)+(ys.length:Int))+1)).toNat),(6,vi 0)]) [] [.cells (List.replicate (i64.wrap (i64.wrap ((xs.length:Int)+(ys.length:Int))+1)).toNat (.d (.i .u32 0))) []]) .ret)))):=bU
theorem f57(b:Bool)(xs:List D)(n:Int):EQ aF (.call 155 [vl b xs,vi n] []) (aM (decide (n<(xs.length:Int))) (ob (bJ xs n) λ a=>aH (a.width==1) (ob xs[n.toNat]? λ c=>ob c.cells[0]? λ e=>bR .u32 e λ f => .ret (vu (u64.wrap f),[]))) (.ret (vu 0,[]))):=bU
theorem f28(b:Bool)(xs:List D)(c:Bool)(ys:List D):EQ aF (.call 109 [vl b xs,vl c ys] []) (.call (.at_ 109 0 (fw 87) (sv 42 [(0,vl b xs),(1,vl c ys),(5,vl true []),(6,vu 0),(7,vi 0)]) [(5,1)] []) .ret):=bU
theorem f44(b:Bool)(xs:List D)(c:Bool)(ys:List D):EQ aF (.call 108 [vl b xs,vl c ys] []) (.call (.at_ 108 0 (fw 21) (sv 30 [(0,vl b xs),(1,vl c ys),(5,vi (i64.wrap ((if (ys.length:Int)>(xs.length:Int) then(ys.length:Int) else(xs.length:Int))-1)))]) [] []) .ret):=bU
theorem f69(b:Bool)(xs:List D)(c:Bool)(ys:List D):EQ aF (.call 154 [vl b xs,vl c ys] []) (cV (.call 108 [vl b xs,vl c ys] []) λ a=>bm a λ e=>bR .i64 e λ f=>aM (decide (f<0)) (.ret (.t [vl true [],vb false],[])) (.call (.at_ 154 0 (fw 175) (sv 40 [(0,vl b xs),(1,vl c ys),(6,vl true []),(7,vu 0),(8,vi 0)]) [(6,1)] []) .ret)):=bU
theorem f59(b:Bool)(xs:List D)(n:Int):EQ aF (.call 153 [vl b xs,vi n] []) (cV (.call 155 [vl b xs,vi (i64.wrap (n.tdiv 32))] []) λ a=>bm a λ c=>bR .u64 c λ e=>aH (decide (0<=n.tmod 32)) (.ret (vu (u64.wrap ((BitVec.ofInt u64.bits (e.fdiv (2^min (n.tmod 32).toNat 64)) &&& BitVec.ofInt u64.bits 1).toNat:Int)),[]))):=bU
theorem f41(b:Bool)(xs:List D):EQ aF (.call 103 [vl b xs] []) (cV (.call 152 [vl b xs] []) λ a=>bm a λ c=>fT c λ e f => .call (.at_ 103 0 (fw 39) (sv 22 [(3,vl e f),(4,vi (i64.wrap (32*(f.length:Int))))]) [] []) .ret):=bU
theorem f40(b:Bool)(xs:List D)(n:Int):EQ aF (.call 102 [vl b xs,vi n] []) (aH (decide (0<=i64.wrap (i64.wrap ((xs.length:Int)+i64.wrap ((if 0>n then 0 else n).tdiv 32))+1))) (aH (decide (i64.wrap (i64.wrap ((xs.length:Int)+i64.wrap ((if 0>n then 0 else n).tdiv 32))+1)=i64.wrap (i64.wrap ((xs.length:Int)+i64.wrap ((if 0>n then 0 else n).tdiv 32))+1))) (aH (decide (i64.wrap (i64.wrap ((xs.length:Int)+i64.wrap ((if 0>n then 0 else n).tdiv 32))+1)<=4294967296)) (.call (.at_ 102 0 (fw 43) (vU b xs n (.m 0 0 (i64.wrap (i64.wrap ((xs.length:Int)+i64.wrap ((if 0>n then 0 else n).tdiv 32))+1)).toNat) 0) [] [.cells (List.replicate (i64.wrap (i64.wrap ((xs.length:Int)+i64.wrap ((if 0>n then 0 else n).tdiv 32))+1)).toNat (.d (.i .u32 0))) []]) .ret)))):=bU
theorem f43(b:Bool)(xs:List D)(c:Bool)(ys:List D):EQ aF (.call 107 [vl b xs,vl c ys] []) (cV (.call 152 [vl c ys] []) λ a=>bm a λ e=>fT e λ f g=>aM ((g.length:Int)==0) (.ret (.t [vl true [],vl true [],vb false],[])) (aH (decide (0<=i64.wrap ((xs.length:Int)+1))) (aH (decide (i64.wrap ((xs.length:Int)+1)=i64.wrap ((xs.length:Int)+1))) (aH (decide (i64.wrap ((xs.length:Int)+1)<=4294967296)) (.call (.at_ 107 0 (fw 175) (tP b xs c ys (.m 0 0 (i64.wrap ((xs.length:Int)+1)).toNat) true [] (i64.wrap (i64.wrap (32*(xs.length:Int))-1))) [(8,1)] [.cells (List.replicate (i64.wrap ((xs.length:Int)+1)).toNat (.d (.i .u32 0))) []]) .ret))))):=bU
theorem f45(b:Bool)(xs:List D):EQ aF (.call 110 [vl b xs] []) (cV (.call 155 [vl b xs,vi 0] []) λ a=>bm a λ c=>bR .u64 c λ e=>cV (.call 155 [vl b xs,vi 1] []) λ f=>bm f λ g=>bR .u64 g λ h => .ret (vu (u64.wrap ((BitVec.ofInt u64.bits e ||| BitVec.ofInt u64.bits (u64.wrap (h*4294967296))).toNat:Int)),[])):=bU
theorem f60(q e:Int):EQ aF (.call 215 [vu q,vi e] []) (aM (q==9007199254740992) (.call (.at_ 215 0 (fw 7) (HR (u64.wrap (q.tdiv 2)) (i64.wrap (e+1))) [] []) .ret) (.call (.at_ 215 0 (fw 7) (HR q e) [] []) .ret)):=bU
theorem f32(b:Bool)(xs:List D)(c:Bool)(ys:List D):EQ aF (.call 189 [vl b xs,vl c ys] []) (aM ((xs.length:Int)==0) (.ret (.t [vu 0,vb true],[])) (cV (.call 103 [vl b xs] []) λ a=>bm a λ e=>bR .i64 e λ f=>cV (.call 103 [vl c ys] []) λ g=>bm g λ h=>bR .i64 h λ j => .call (.at_ 189 0 (fw 23) (uG b xs c ys (if -1074>i64.wrap (i64.wrap (f-j)-53)then -1074 else i64.wrap (i64.wrap (f-j)-53))) [] []) .ret)):=bU
theorem f42(b:Bool)(xs:List D)(c:Bool)(ys:List D)(n:Int):EQ aF (.call 104 [vl b xs,vl c ys,vi n] []) (aM (decide (n ≥ 0)) (cV (.call 106 [vi n] []) λ a=>bm a λ e=>fT e λ f g=>cV (.call 105 [vl c ys,vl f g] []) λ h=>bm h λ j=>fT j λ k m=>cV (.call 108 [vl b xs,vl k m] []) λ o=>bm o λ p=>bR .i64 p λ q => .ret (vb (decide (q ≥ 0)),[])) (cV (.call 106 [vi (i64.wrap (0-n))] []) λ r=>bm r λ s=>fT s λ t zu=>cV (.call 105 [vl b xs,vl t zu] []) λ v=>bm v λ w=>fT w λ x y=>cV (.call 108 [vl x y,vl c ys] []) λ z=>bm z λ a0=>bR .i64 a0 λ a1 => .ret (vb (decide (a1 ≥ 0)),[]))):=bU
theorem f27(s:mP):EQ aF (.call 188 [vs s] []) (aM ((s.length:Int)==0) (.ret (.t [vi 0,vb false,vi 0],[])) (ob (bJ s 0) λ a=>aM ((a.toNat:Int) != 101) (ob (bJ s 0) λ c => .call (.at_ 188 0 (fw 27) (sv 75 [(0,vs s),(18,vb ((c.toNat:Int) != 69))]) [] []) .ret) (.call (.at_ 188 0 (fw 27) (sv 75 [(0,vs s),(18,vb false)]) [] []) .ret))):=bU
theorem f14(s:mP):EQ aF (.call 150 [vs s] []) (aM (decide ((s.length:Int)>0)) (ob (bJ s 0) λ a=>aM ((a.toNat:Int)==43) (.call (.at_ 150 0 (fw 27) (Gd s 0 true) [] []) .ret) (ob (bJ s 0) λ c => .call (.at_ 150 0 (fw 27) (Gd s 0 ((c.toNat:Int)==45)) [] []) .ret)) (.call (.at_ 150 0 (fw 27) (Gd s 0 false) [] []) .ret)):=bU
theorem f16(q:Int):EQ aF (.call 48 [vu q] []) (aM (q.fdiv 9223372036854775808==1) (.call (.at_ 48 0 (fw 15) (sv 147 [(0,vu q),(3,vs [45])]) [] []) .ret) (.call (.at_ 48 0 (fw 15) (sv 147 [(0,vu q),(3,vs [])]) [] []) .ret)):=bU
theorem Ey(b0:Bool)(l1:List D)(n2:Int):EQ aF (.at_ 152 0 (fw 19) (sv 23 [(0,vl b0 l1),(3,vi n2)]) [] []) (aM (decide (n2>0)) (ob (bJ l1 (i64.wrap (n2-1))) λ a=>aH (a.width==1) (ob l1[(i64.wrap (n2-1)).toNat]? λ c=>ob c.cells[0]? λ e=>bR .u32 e λ f => .call (.at_ 152 0 (fw 195) (sv 23 [(0,vl b0 l1),(3,vi n2),(15,vb (f==0))]) [] []) .ret)) (.call (.at_ 152 0 (fw 195) (sv 23 [(0,vl b0 l1),(3,vi n2),(15,vb false)]) [] []) .ret)):=bU
theorem xG(m0:Nat)(n1:Int)(l2:List V):EQ aF (.at_ 152 1 (fw 19) (sv 23 [(0,.m 0 0 m0),(3,vi n1)]) [] [.cells l2 []]) (aM (decide (n1>0)) (aH (decide (0<=i64.wrap (n1-1)/\i64.wrap (n1-1)<(m0:Int))) (ob l2[0+(i64.wrap (n1-1)).toNat]? λ a=>bm a λ c=>bR .u32 c λ e => .call (.at_ 152 1 (fw 195) (sv 23 [(0,.m 0 0 m0),(3,vi n1),(15,vb (e==0))]) [] [.cells l2 []]) .ret)) (.call (.at_ 152 1 (fw 195) (sv 23 [(0,.m 0 0 m0),(3,vi n1),(15,vb false)]) [] [.cells l2 []]) .ret)):=bU
theorem En(n0:Int)(b1:Bool)(l2:List D)(n3:Int):EQ aF (.at_ 106 0 (fw 87) (sv 17 [(0,vi n0),(3,vl b1 l2),(4,vi n3)]) [] []) (aM (decide (n3<n0)) (cV (.call 105 [vl b1 l2,vl true [.i .u32 10]] []) λ a=>bm a λ b=>fT b λ c e => .call (.at_ 106 0 (fw 87) (sv 17 [(0,vi n0),(3,vl c e),(4,vi (i64.wrap (n3+1)))]) [] []) .ret) (.ret (vl b1 l2,[]))):=bU
theorem Em(b0:Bool)(l1:List D)(b2:Bool)(l3:List D)(m4:Nat)(n5:Int)(l6:List V):EQ aF (.at_ 105 0 (fw 43) (sv 68 [(0,vl b0 l1),(1,vl b2 l3),(5,.m 0 0 m4),(6,vi n5)]) [] [.cells l6 []]) (aM (decide (n5<(l1.length:Int))) (.call (.at_ 105 0 (fw 10827) (Ri b0 l1 b2 l3 (.m 0 0 m4) n5 0 0) [] [.cells l6 []]) .ret) (c1 (.call 152 [.m 0 0 m4] [.cells l6 []]) l6.length [] λ o0 l3=>bm o0 λ d5=>fT d5 λ b6 l7 => .ret (vl b6 l7,[]))):=bU
theorem El(b0:Bool)(l1:List D)(b2:Bool)(l3:List D)(b4:Bool)(l5:List D)(n6 n7:Int):EQ aF (.at_ 109 0 (fw 87) (sv 42 [(0,vl b0 l1),(1,vl b2 l3),(5,vl b4 l5),(6,vu n6),(7,vi n7)]) [(5,1)] []) (aM (decide (n7<(l1.length:Int))) (.call (.at_ 109 0 (fw 791) (Li b0 l1 b2 l3 b4 l5 n6 n7 true) [(5,1)] []) .ret) (aM (decide (n7<(l3.length:Int))) (.call (.at_ 109 0 (fw 791) (Li b0 l1 b2 l3 b4 l5 n6 n7 true) [(5,1)] []) .ret) (.call (.at_ 109 0 (fw 791) (Li b0 l1 b2 l3 b4 l5 n6 n7 (decide (n6>0))) [(5,1)] []) .ret))):=bU
theorem Er(b0:Bool)(l1:List D)(b2:Bool)(l3:List D)(n4:Int):EQ aF (.at_ 108 0 (fw 21) (sv 30 [(0,vl b0 l1),(1,vl b2 l3),(5,vi n4)]) [] []) (aM (decide (n4 ≥ 0)) (cV (.call 155 [vl b0 l1,vi n4] []) λ a=>bm a λ b=>bR .u64 b λ c=>cV (.call 155 [vl b2 l3,vi n4] []) λ e=>bm e λ f=>bR .u64 f λ g=>aM (decide (c<g)) (.ret (vi (-1),[])) (cV (.call 155 [vl b0 l1,vi n4] []) λ h=>bm h λ j=>bR .u64 j λ k=>cV (.call 155 [vl b2 l3,vi n4] []) λ m=>bm m λ n=>bR .u64 n λ o=>aM (decide (k>o)) (.ret (vi 1,[])) (.call (.at_ 108 0 (fw 21) (sv 30 [(0,vl b0 l1),(1,vl b2 l3),(5,vi (i64.wrap (n4-1)))]) [] []) .ret))) (.ret (vi 0,[]))):=bU
theorem AG(b0:Bool)(l1:List D)(b2:Bool)(l3:List D)(b4:Bool)(l5:List D)(n6 n7:Int):EQ aF (.at_ 154 0 (fw 175) (sv 40 [(0,vl b0 l1),(1,vl b2 l3),(6,vl b4 l5),(7,vu n6),(8,vi n7)]) [(6,1)] []) (aM (decide (n7<(l1.length:Int))) (cV (.call 155 [vl b0 l1,vi n7] []) λ a=>bm a λ c=>bR .u64 c λ e=>cV (.call 155 [vl b2 l3,vi n7] []) λ f=>bm f λ g=>bR .u64 g λ h=>aH (bw 1 l5) (aH (b4||true) (aH (decide (l5.length+1<=4294967296)) (.call (.at_ 154 0 (fw 175) (sv 40 [(0,vl b0 l1),(1,vl b2 l3),(6,vl (b4&&false) (l5++[.i .u32 (u32.wrap (u64.wrap (u64.wrap (u64.wrap (e+4294967296)-h)-n6)))])),(7,vu (u64.wrap (1-(u64.wrap (u64.wrap (u64.wrap (e+4294967296)-h)-n6)).fdiv 4294967296))),(8,vi (i64.wrap (n7+1)))]) [(6,1)] []) .ret)))) (cV (.call 152 [vl b4 l5] []) λ j=>bm j λ k=>fT k λ m n => .ret (.t [vl m n,vb true],[]))):=bU
theorem Ep(b0:Bool)(l1:List D)(n2:Int):EQ aF (.at_ 103 0 (fw 39) (sv 22 [(3,vl b0 l1),(4,vi n2)]) [] []) (aM (decide (n2>0)) (cV (.call 153 [vl b0 l1,vi (i64.wrap (n2-1))] []) λ a=>bm a λ c=>bR .u64 c λ e => .call (.at_ 103 0 (fw 391) (sv 22 [(3,vl b0 l1),(4,vi n2),(18,vb (e==0))]) [] []) .ret) (.call (.at_ 103 0 (fw 391) (sv 22 [(3,vl b0 l1),(4,vi n2),(18,vb false)]) [] []) .ret)):=bU
theorem Eo(b0:Bool)(l1:List D)(n2:Int)(m3:Nat)(n4:Int)(l5:List V):EQ aF (.at_ 102 0 (fw 43) (vU b0 l1 n2 (.m 0 0 m3) n4) [] [.cells l5 []]) (aM (decide (n4<i64.wrap (32*(l1.length:Int)))) (cV (.call 153 [vl b0 l1,vi n4] []) λ a=>bm a λ c=>bR .u64 c λ e=>aM (e==1) (.call (.at_ 102 0 (fw 1611) (sv 53 [(0,vl b0 l1),(1,vi n2),(5,.m 0 0 m3),(6,vi n4),(31,vb (decide (i64.wrap (n4+n2) ≥ 0)))]) [] [.cells l5 []]) .ret) (.call (.at_ 102 0 (fw 1611) (sv 53 [(0,vl b0 l1),(1,vi n2),(5,.m 0 0 m3),(6,vi n4),(31,vb false)]) [] [.cells l5 []]) .ret)) (c1 (.call 152 [.m 0 0 m3] [.cells l5 []]) l5.length [] λ f g=>bm f λ h=>fT h λ j k => .ret (vl j k,[]))):=bU
theorem ua(b0:Bool)(l1:List D)(b2:Bool)(l3:List D)(m4:Nat)(b5:Bool)(l6:List D)(n7:Int)(l8:List V):EQ aF (.at_ 107 0 (fw 175) (tP b0 l1 b2 l3 (.m 0 0 m4) b5 l6 n7) [(8,1)] [.cells l8 []]) (aM (decide (n7 ≥ 0)) (cV (.call 109 [vl b5 l6,vl b5 l6] []) λ a=>bm a λ c=>fT c λ e f=>cV (.call 153 [vl b0 l1,vi n7] []) λ g=>bm g λ h=>bR .u64 h λ j=>cV (.call 101 [vu j] []) λ k=>bm k λ n=>fT n λ o p=>cV (.call 109 [vl e f,vl o p] []) λ q=>bm q λ r=>fT r λ s zu=>cV (.call 154 [vl s zu,vl b2 l3] []) λ v=>cL v λ w=>aH (w.length==2) (bm (Ul w 0) λ x=>fT x λ y z=>bm (Ul w 1) λ a0=>fN a0 λ a1=>aM a1 (aH (decide (0<=i64.wrap (n7.tdiv 32)/\i64.wrap (n7.tdiv 32)<(m4:Int))) (ob l8[0+(i64.wrap (n7.tdiv 32)).toNat]? λ a2=>bm a2 λ a3=>bR .u32 a3 λ a4=>aH (decide (0<=n7.tmod 32)) (aH (decide (0<=i64.wrap (n7.tdiv 32)/\i64.wrap (n7.tdiv 32)<(m4:Int))) (aH (decide (0+(i64.wrap (n7.tdiv 32)).toNat<l8.length)&&true) (.call (.at_ 107 0 (fw 1839) (tP b0 l1 b2 l3 (.m 0 0 m4) y z n7) [] [.cells (l8.set (0+(i64.wrap (n7.tdiv 32)).toNat) (.d (.i .u32 (u32.wrap ((BitVec.ofInt u32.bits a4 ||| BitVec.ofInt u32.bits (u32.wrap (1*2^min (n7.tmod 32).toNat 32))).toNat:Int))))) []]) .ret))))) (.call (.at_ 107 0 (fw 1839) (tP b0 l1 b2 l3 (.m 0 0 m4) s zu n7) [] [.cells l8 []]) .ret))) (c1 (.call 152 [.m 0 0 m4] [.cells l8 []]) l8.length [] λ a5 a6=>bm a5 λ a7=>fT a7 λ a8 a9 => .ret (.t [vl a8 a9,vl b5 l6,vb true],[]))):=bU
theorem QN(n0 n1:Int):EQ aF (.at_ 215 0 (fw 7) (HR n0 n1) [] []) (aM (decide (n0<4503599627370496)) (.ret (.t [vu n0,vb true],[])) (aM (decide (n1>971)) (.ret (.t [vu 0,vb false],[])) (.ret (.t [vu (u64.wrap ((BitVec.ofInt u64.bits (u64.wrap (u64.wrap (i64.wrap (n1+1075))*4503599627370496)) ||| BitVec.ofInt u64.bits (u64.wrap (n0-4503599627370496))).toNat:Int)),vb true],[])))):=bU
theorem NL(b0:Bool)(l1:List D)(b2:Bool)(l3:List D)(n4:Int):EQ aF (.at_ 189 0 (fw 23) (uG b0 l1 b2 l3 n4) [] []) (cV (.call 102 [vl b0 l1,vi (if 0>i64.wrap (0-n4)then 0 else i64.wrap (0-n4))] []) λ a=>bm a λ c=>fT c λ e f=>cV (.call 102 [vl b2 l3,vi (if 0>n4 then 0 else n4)] []) λ g=>bm g λ h=>fT h λ j k=>cV (.call 107 [vl e f,vl j k] []) λ m=>cL m λ n=>aH (n.length==3) (bm (Ul n 0) λ o=>fT o λ p q=>bm (Ul n 1) λ r=>fT r λ s t=>bm (Ul n 2) λ zu=>fN zu λ v=>cV (.call 103 [vl p q] []) λ w=>bm w λ x=>bR .i64 x λ y=>aM (decide (y>53)) (.call (.at_ 189 0 (fw 23) (uG b0 l1 b2 l3 (i64.wrap (n4+1))) [] []) .ret) (cV (.call 109 [vl s t,vl s t] []) λ z=>bm z λ a0=>fT a0 λ a1 a2=>cV (.call 108 [vl a1 a2,vl j k] []) λ a3=>bm a3 λ a4=>bR .i64 a4 λ a5=>aM (decide (a5>0)) (.call (.at_ 189 0 (fw 7111) (wN n4 p q true) [] []) .ret) (aM (a5==0) (cV (.call 153 [vl p q,vi 0] []) λ a6=>bm a6 λ a7=>bR .u64 a7 λ a8 => .call (.at_ 189 0 (fw 7111) (wN n4 p q (a8==1)) [] []) .ret) (.call (.at_ 189 0 (fw 7111) (wN n4 p q false) [] []) .ret))))):=bU
theorem Ek(l0:mP)(b1:Bool):EQ aF (.at_ 188 0 (fw 27) (sv 75 [(0,vs l0),(18,vb b1)]) [] []) (aM b1 (.ret (.t [vi 0,vb false,vi 2],[])) (aH (decide ((0:Int)<=1/\1<=(l0.length:Int))) (aM (decide (((List.take (l0.length-1) (List.drop 1 l0)).length:Int)>0)) (ob (bJ (List.take (l0.length-1) (List.drop 1 l0)) 0) λ a=>aM ((a.toNat:Int)==43) (.call (.at_ 188 0 (fw 223) (wS (List.take (l0.length-1) (List.drop 1 l0)) false true) [] []) .ret) (ob (bJ (List.take (l0.length-1) (List.drop 1 l0)) 0) λ c => .call (.at_ 188 0 (fw 223) (wS (List.take (l0.length-1) (List.drop 1 l0)) false ((c.toNat:Int)==45)) [] []) .ret)) (.call (.at_ 188 0 (fw 223) (wS (List.take (l0.length-1) (List.drop 1 l0)) false false) [] []) .ret)))):=bU
theorem xA(l0:mP)(n1:Int)(b2:Bool):EQ aF (.at_ 150 0 (fw 27) (Gd l0 n1 b2) [] []) (aM b2 (ob (bJ l0 0) λ a=>aM ((a.toNat:Int)==45) (.call (.at_ 150 0 (fw 107) (sv 133 [(0,vs l0),(4,vu 9223372036854775808)]) [] []) .ret) (.call (.at_ 150 0 (fw 107) (sv 133 [(0,vs l0),(4,vu n1)]) [] []) .ret)) (.call (.at_ 150 0 (fw 159) (uK l0 n1 true [] false 0) [(5,1)] []) .ret)):=bU
theorem NI(n0:Int)(l1:mP):EQ aF (.at_ 48 0 (fw 15) (sv 147 [(0,vu n0),(3,vs l1)]) [] []) (aM (i64.wrap (u64.wrap ((BitVec.ofInt u64.bits (n0.fdiv 4503599627370496) &&& BitVec.ofInt u64.bits 2047).toNat:Int))==2047) (.ret (vs [],[])) (aM (i64.wrap (u64.wrap ((BitVec.ofInt u64.bits (n0.fdiv 4503599627370496) &&& BitVec.ofInt u64.bits 2047).toNat:Int))==0) (.call (.at_ 48 0 (fw 447) (sv 147 [(3,vs l1),(4,vi (i64.wrap (u64.wrap ((BitVec.ofInt u64.bits (n0.fdiv 4503599627370496) &&& BitVec.ofInt u64.bits 2047).toNat:Int)))),(5,vu (u64.wrap ((BitVec.ofInt u64.bits n0 &&& BitVec.ofInt u64.bits 4503599627370495).toNat:Int))),(33,vb (u64.wrap ((BitVec.ofInt u64.bits n0 &&& BitVec.ofInt u64.bits 4503599627370495).toNat:Int)==0))]) [] []) .ret) (.call (.at_ 48 0 (fw 447) (sv 147 [(3,vs l1),(4,vi (i64.wrap (u64.wrap ((BitVec.ofInt u64.bits (n0.fdiv 4503599627370496) &&& BitVec.ofInt u64.bits 2047).toNat:Int)))),(5,vu (u64.wrap ((BitVec.ofInt u64.bits n0 &&& BitVec.ofInt u64.bits 4503599627370495).toNat:Int))),(33,vb false)]) [] []) .ret))):=bU
theorem AF(b0:Bool)(l1:List D)(n2:Int)(b3:Bool):EQ aF (.at_ 152 0 (fw 195) (sv 23 [(0,vl b0 l1),(3,vi n2),(15,vb b3)]) [] []) (aM b3 (.call (.at_ 152 0 (fw 19) (sv 23 [(0,vl b0 l1),(3,vi (i64.wrap (n2-1)))]) [] []) .ret) (aH (decide (0<=n2/\n2<=(l1.length:Int))) (aH (bw 1 l1) (aH (bw 1 (List.take (n2.toNat-0) (List.drop 0 l1))) (aH (decide (0+(List.take (n2.toNat-0) (List.drop 0 l1)).length<=4294967296)) (.ret (vl (List.take (n2.toNat-0) (List.drop 0 l1)).isEmpty ([]++List.take (n2.toNat-0) (List.drop 0 l1)),[]))))))):=bU
theorem vp(m0:Nat)(n1:Int)(b2:Bool)(l3:List V):EQ aF (.at_ 152 1 (fw 195) (sv 23 [(0,.m 0 0 m0),(3,vi n1),(15,vb b2)]) [] [.cells l3 []]) (aM b2 (.call (.at_ 152 1 (fw 19) (sv 23 [(0,.m 0 0 m0),(3,vi (i64.wrap (n1-1)))]) [] [.cells l3 []]) .ret) (aH (decide (0<=n1/\n1<=(m0:Int))) (ob (dn [.cells l3 []] 1 (.m 0 0 (n1.toNat-0))) λ a=>aH (bw 1 a) (aH (decide (0+a.length<=4294967296)) (.ret (vl a.isEmpty ([]++a),[.cells l3 []])))))):=bU
theorem vo(b0:Bool)(l1:List D)(b2:Bool)(l3:List D)(m4:Nat)(n5 n6 n7:Int)(l8:List V):EQ aF (.at_ 105 0 (fw 10827) (Ri b0 l1 b2 l3 (.m 0 0 m4) n5 n6 n7) [] [.cells l8 []]) (aM (decide (n7<(l3.length:Int))) (aH (decide (0<=i64.wrap (n5+n7)/\i64.wrap (n5+n7)<(m4:Int))) (ob l8[0+(i64.wrap (n5+n7)).toNat]? λ a=>bm a λ b=>bR .u32 b λ c=>ob (bJ l1 n5) λ e=>aH (e.width==1) (ob l1[n5.toNat]? λ f=>ob f.cells[0]? λ g=>bR .u32 g λ h=>ob (bJ l3 n7) λ j=>aH (j.width==1) (ob l3[n7.toNat]? λ k=>ob k.cells[0]? λ n=>bR .u32 n λ o=>aH (decide (0<=i64.wrap (n5+n7)/\i64.wrap (n5+n7)<(m4:Int))) (aH (decide (0+(i64.wrap (n5+n7)).toNat<l8.length)&&true) (.call (.at_ 105 0 (fw 10827) (Ri b0 l1 b2 l3 (.m 0 0 m4) n5 ((u64.wrap (u64.wrap (n6+u64.wrap c)+u64.wrap (u64.wrap h*u64.wrap o))).fdiv 4294967296) (i64.wrap (n7+1))) [] [.cells (l8.set (0+(i64.wrap (n5+n7)).toNat) (.d (.i .u32 (u32.wrap (u64.wrap (u64.wrap (n6+u64.wrap c)+u64.wrap (u64.wrap h*u64.wrap o))))))) []]) .ret)))))) (aH (decide (0<=i64.wrap (n5+(l3.length:Int))/\i64.wrap (n5+(l3.length:Int))<(m4:Int))) (aH (decide (0+(i64.wrap (n5+(l3.length:Int))).toNat<l8.length)&&true) (.call (.at_ 105 0 (fw 43) (sv 68 [(0,vl b0 l1),(1,vl b2 l3),(5,.m 0 0 m4),(6,vi (i64.wrap (n5+1)))]) [] [.cells (l8.set (0+(i64.wrap (n5+(l3.length:Int))).toNat) (.d (.i .u32 (u32.wrap n6)))) []]) .ret)))):=bU
theorem tZ(b0:Bool)(l1:List D)(b2:Bool)(l3:List D)(b4:Bool)(l5:List D)(n6 n7:Int)(b8:Bool):EQ aF (.at_ 109 0 (fw 791) (Li b0 l1 b2 l3 b4 l5 n6 n7 b8) [(5,1)] []) (aM b8 (cV (.call 155 [vl b0 l1,vi n7] []) λ o0=>bm o0 λ d1=>bR .u64 d1 λ n2=>cV (.call 155 [vl b2 l3,vi n7] []) λ o3=>bm o3 λ d4=>bR .u64 d4 λ n5=>aH (bw 1 l5) (aH (b4||true) (aH (decide (l5.length+1<=4294967296)) (.call (.at_ 109 0 (fw 87) (sv 42 [(0,vl b0 l1),(1,vl b2 l3),(5,vl (b4&&false) (l5++[.i .u32 (u32.wrap (u64.wrap (u64.wrap (n6+n2)+n5)))])),(6,vu ((u64.wrap (u64.wrap (n6+n2)+n5)).fdiv 4294967296)),(7,vi (i64.wrap (n7+1)))]) [(5,1)] []) .ret)))) (cV (.call 152 [vl b4 l5] []) λ o6=>bm o6 λ d7=>fT d7 λ b8 l9 => .ret (vl b8 l9,[]))):=bU
theorem AB(b0:Bool)(l1:List D)(n2:Int)(b3:Bool):EQ aF (.at_ 103 0 (fw 391) (sv 22 [(3,vl b0 l1),(4,vi n2),(18,vb b3)]) [] []) (aM b3 (.call (.at_ 103 0 (fw 39) (sv 22 [(3,vl b0 l1),(4,vi (i64.wrap (n2-1)))]) [] []) .ret) (.ret (vi n2,[]))):=bU
theorem xE(b0:Bool)(l1:List D)(n2:Int)(m3:Nat)(n4:Int)(b5:Bool)(l6:List V):EQ aF (.at_ 102 0 (fw 1611) (sv 53 [(0,vl b0 l1),(1,vi n2),(5,.m 0 0 m3),(6,vi n4),(31,vb b5)]) [] [.cells l6 []]) (aM b5 (aH (decide (0<=i64.wrap ((i64.wrap (n4+n2)).tdiv 32)/\i64.wrap ((i64.wrap (n4+n2)).tdiv 32)<(m3:Int))) (ob l6[0+(i64.wrap ((i64.wrap (n4+n2)).tdiv 32)).toNat]? λ a=>bm a λ c=>bR .u32 c λ e=>aH (decide (0<=(i64.wrap (n4+n2)).tmod 32)) (aH (decide (0<=i64.wrap ((i64.wrap (n4+n2)).tdiv 32)/\i64.wrap ((i64.wrap (n4+n2)).tdiv 32)<(m3:Int))) (aH (decide (0+(i64.wrap ((i64.wrap (n4+n2)).tdiv 32)).toNat<l6.length)&&true) (.call (.at_ 102 0 (fw 43) (vU b0 l1 n2 (.m 0 0 m3) (i64.wrap (n4+1))) [] [.cells (l6.set (0+(i64.wrap ((i64.wrap (n4+n2)).tdiv 32)).toNat) (.d (.i .u32 (u32.wrap ((BitVec.ofInt u32.bits e ||| BitVec.ofInt u32.bits (u32.wrap (1*2^min ((i64.wrap (n4+n2)).tmod 32).toNat 32))).toNat:Int))))) []]) .ret))))) (.call (.at_ 102 0 (fw 43) (vU b0 l1 n2 (.m 0 0 m3) (i64.wrap (n4+1))) [] [.cells l6 []]) .ret)):=bU
theorem nK(b0:Bool)(l1:List D)(b2:Bool)(l3:List D)(m4:Nat)(b5:Bool)(l6:List D)(n7:Int)(l8:List V):EQ aF (.at_ 107 0 (fw 1839) (tP b0 l1 b2 l3 (.m 0 0 m4) b5 l6 n7) [] [.cells l8 []]) (.call (.at_ 107 0 (fw 175) (tP b0 l1 b2 l3 (.m 0 0 m4) b5 l6 (i64.wrap (n7-1))) [] [.cells l8 []]) .ret):=bU
theorem Hl(n0:Int)(b1:Bool)(l2:List D)(b3:Bool):EQ aF (.at_ 189 0 (fw 7111) (wN n0 b1 l2 b3) [] []) (aM b3 (cV (.call 101 [vu 1] []) λ a=>bm a λ c=>fT c λ e f=>cV (.call 109 [vl b1 l2,vl e f] []) λ g=>bm g λ h=>fT h λ j k=>cV (.call 110 [vl j k] []) λ m=>bm m λ n=>bR .u64 n λ o=>cV (.call 215 [vu o,vi n0] []) λ p=>cL p λ q=>aH (q.length==2) (bm (Ul q 0) λ r=>bR .u64 r λ s=>bm (Ul q 1) λ zu=>fN zu λ v => .ret (.t [vu s,vb v],[]))) (cV (.call 110 [vl b1 l2] []) λ w=>bm w λ x=>bR .u64 x λ y=>cV (.call 215 [vu y,vi n0] []) λ z=>cL z λ a0=>aH (a0.length==2) (bm (Ul a0 0) λ a1=>bR .u64 a1 λ a2=>bm (Ul a0 1) λ a3=>fN a3 λ a4 => .ret (.t [vu a2,vb a4],[])))):=bU
theorem tY(l0:mP)(b1 b2:Bool):EQ aF (.at_ 188 0 (fw 223) (wS l0 b1 b2) [] []) (aM b2 (ob (bJ l0 0) λ a=>aH (decide ((0:Int)<=1/\1<=(l0.length:Int))) (aM (((List.take (l0.length-1) (List.drop 1 l0)).length:Int)==0) (.ret (.t [vi 0,vb false,vi 2],[])) (.call (.at_ 188 0 (fw 2815) (vh (List.take (l0.length-1) (List.drop 1 l0)) ((a.toNat:Int)==45) 0 0) [] []) .ret))) (aM ((l0.length:Int)==0) (.ret (.t [vi 0,vb false,vi 2],[])) (.call (.at_ 188 0 (fw 2815) (vh l0 b1 0 0) [] []) .ret))):=bU
theorem La(l0:mP)(n1:Int):EQ aF (.at_ 150 0 (fw 107) (sv 133 [(0,vs l0),(4,vu n1)]) [] []) (aH (decide ((0:Int)<=1/\1<=(l0.length:Int))) (.call (.at_ 150 0 (fw 159) (uK (List.take (l0.length-1) (List.drop 1 l0)) n1 true [] false 0) [(5,1)] []) .ret)):=bU
theorem pX(l0:mP)(n1:Int)(b2:Bool)(l3:List D)(b4:Bool)(n5:Int):EQ aF (.at_ 150 0 (fw 159) (uK l0 n1 b2 l3 b4 n5) [(5,1)] []) (aM (decide ((l0.length:Int)>0)) (ob (bJ l0 0) λ a=>aM (decide ((a.toNat:Int) ≥ 48)) (ob (bJ l0 0) λ c=>aM (decide ((c.toNat:Int)<=57)) (.call (.at_ 150 0 (fw 1567) (RZ l0 n1 b2 l3 b4 n5 true) [(5,1)] []) .ret) (ob (bJ l0 0) λ e=>aM ((e.toNat:Int)==46) (.call (.at_ 150 0 (fw 1567) (sv 133 [(0,vs l0),(4,vu n1),(5,vl b2 l3),(6,vb b4),(7,vi n5),(55,vb !b4)]) [(5,1)] []) .ret) (.call (.at_ 150 0 (fw 1567) (RZ l0 n1 b2 l3 b4 n5 false) [(5,1)] []) .ret))) (ob (bJ l0 0) λ f=>aM ((f.toNat:Int)==46) (.call (.at_ 150 0 (fw 1567) (sv 133 [(0,vs l0),(4,vu n1),(5,vl b2 l3),(6,vb b4),(7,vi n5),(55,vb !b4)]) [(5,1)] []) .ret) (.call (.at_ 150 0 (fw 1567) (RZ l0 n1 b2 l3 b4 n5 false) [(5,1)] []) .ret))) (.call (.at_ 150 0 (fw 1567) (RZ l0 n1 b2 l3 b4 n5 false) [(5,1)] []) .ret)):=bU
theorem Az(l0:mP)(n1 n2:Int)(b3:Bool):EQ aF (.at_ 48 0 (fw 447) (sv 147 [(3,vs l0),(4,vi n1),(5,vu n2),(33,vb b3)]) [] []) (aM b3 (aH (decide (l0.length+5<4611686018427387904)) (.ret (vs (l0++[48,46,48,101,48]),[]))) (aM (n1==0) (.call (.at_ 48 0 (fw 511) (Ge l0 1 n2) [] []) .ret) (.call (.at_ 48 0 (fw 511) (Ge l0 n1 (u64.wrap ((BitVec.ofInt u64.bits n2 ||| BitVec.ofInt u64.bits 4503599627370496).toNat:Int))) [] []) .ret))):=bU
theorem oW(b0:Bool)(l1:List D)(b2:Bool)(l3:List D)(m4:Nat)(b5:Bool)(l6:List D)(n7:Int)(l8:List V):EQ aF (.at_ 107 0 (fw 175) (tP b0 l1 b2 l3 (.m 0 0 m4) b5 l6 n7) [] [.cells l8 []]) (aM (decide (n7 ≥ 0)) (cV (.call 109 [vl b5 l6,vl b5 l6] []) λ a=>bm a λ c=>fT c λ e f=>cV (.call 153 [vl b0 l1,vi n7] []) λ g=>bm g λ h=>bR .u64 h λ j=>cV (.call 101 [vu j] []) λ k=>bm k λ n=>fT n λ o p=>cV (.call 109 [vl e f,vl o p] []) λ q=>bm q λ r=>fT r λ s zu=>cV (.call 154 [vl s zu,vl b2 l3] []) λ v=>cL v λ w=>aH (w.length==2) (bm (Ul w 0) λ x=>fT x λ y z=>bm (Ul w 1) λ a0=>fN a0 λ a1=>aM a1 (aH (decide (0<=i64.wrap (n7.tdiv 32)/\i64.wrap (n7.tdiv 32)<(m4:Int))) (ob l8[0+(i64.wrap (n7.tdiv 32)).toNat]? λ a2=>bm a2 λ a3=>bR .u32 a3 λ a4=>aH (decide (0<=n7.tmod 32)) (aH (decide (0<=i64.wrap (n7.tdiv 32)/\i64.wrap (n7.tdiv 32)<(m4:Int))) (aH (decide (0+(i64.wrap (n7.tdiv 32)).toNat<l8.length)&&true) (.call (.at_ 107 0 (fw 1839) (tP b0 l1 b2 l3 (.m 0 0 m4) y z n7) [] [.cells (l8.set (0+(i64.wrap (n7.tdiv 32)).toNat) (.d (.i .u32 (u32.wrap ((BitVec.ofInt u32.bits a4 ||| BitVec.ofInt u32.bits (u32.wrap (1*2^min (n7.tmod 32).toNat 32))).toNat:Int))))) []]) .ret))))) (.call (.at_ 107 0 (fw 1839) (tP b0 l1 b2 l3 (.m 0 0 m4) s zu n7) [] [.cells l8 []]) .ret))) (c1 (.call 152 [.m 0 0 m4] [.cells l8 []]) l8.length [] λ a5 a6=>bm a5 λ a7=>fT a7 λ a8 a9 => .ret (.t [vl a8 a9,vl b5 l6,vb true],[]))):=bU
theorem xC(l0:mP)(b1:Bool)(n2 n3:Int):EQ aF (.at_ 188 0 (fw 2815) (vh l0 b1 n2 n3) [] []) (aM (decide (n3<(l0.length:Int))) (ob (bJ l0 n3) λ a=>aM (decide ((a.toNat:Int)<48)) (.call (.at_ 188 0 (fw 201471) (sv 75 [(0,vs l0),(5,vb b1),(6,vi n2),(7,vi n3),(57,vb true)]) [] []) .ret) (ob (bJ l0 n3) λ c => .call (.at_ 188 0 (fw 201471) (sv 75 [(0,vs l0),(5,vb b1),(6,vi n2),(7,vi n3),(57,vb (decide ((c.toNat:Int)>57)))]) [] []) .ret)) (aM b1 (.ret (.t [vi (i64.wrap (0-n2)),vb (decide (n2>400)),vi 0],[])) (.ret (.t [vi n2,vb (decide (n2>400)),vi 0],[])))):=bU
theorem re(l0:mP)(n1:Int)(b2:Bool)(l3:List D)(b4:Bool)(n5:Int)(b6:Bool):EQ aF (.at_ 150 0 (fw 1567) (RZ l0 n1 b2 l3 b4 n5 b6) [(5,1)] []) (aM b6 (ob (bJ l0 0) λ a=>aM ((a.toNat:Int)==46) (.call (.at_ 150 0 (fw 3359) (uK l0 n1 b2 l3 true n5) [(5,1)] []) .ret) (ob (bJ l0 0) λ c=>aH (bw 1 l3) (aH (b2||true) (aH (decide (l3.length+1<=4294967296)) (aM b4 (.call (.at_ 150 0 (fw 3359) (uK l0 n1 (b2&&false) (l3++[.i .u8 (u8.wrap ((c.toNat:Int)-48))]) b4 (i64.wrap (n5+1))) [(5,1)] []) .ret) (.call (.at_ 150 0 (fw 3359) (uK l0 n1 (b2&&false) (l3++[.i .u8 (u8.wrap ((c.toNat:Int)-48))]) b4 n5) [(5,1)] []) .ret)))))) (aM ((l3.length:Int)==0) (.call (.at_ 150 0 (fw 447) (Mk l0 n1 b2 l3 n5 true) [(5,1)] []) .ret) (aM b4 (.call (.at_ 150 0 (fw 447) (Mk l0 n1 b2 l3 n5 (n5==0)) [(5,1)] []) .ret) (.call (.at_ 150 0 (fw 447) (Mk l0 n1 b2 l3 n5 false) [(5,1)] []) .ret)))):=bU
theorem Lc(l0:mP)(n1 n2:Int):EQ aF (.at_ 48 0 (fw 511) (Ge l0 n1 n2) [] []) (cV (.call 101 [vu n2] []) λ a=>bm a λ b=>fT b λ c e=>aM (decide (n1 ≥ 1075)) (cV (.call 102 [vl c e,vi (i64.wrap (n1-1075))] []) λ f=>bm f λ g=>fT g λ h j => .call (.at_ 48 0 (fw 2047) (sv 147 [(3,vs l0),(6,vl h j),(7,vl true [.i .u32 1])]) [] []) .ret) (cV (.call 102 [vl true [.i .u32 1],vi (i64.wrap (1075-n1))] []) λ k=>bm k λ m=>fT m λ n o => .call (.at_ 48 0 (fw 2047) (sv 147 [(3,vs l0),(6,vl c e),(7,vl n o)]) [] []) .ret)):=bU
theorem sw(l0:mP)(b1:Bool)(n2 n3:Int)(b4:Bool):EQ aF (.at_ 188 0 (fw 201471) (sv 75 [(0,vs l0),(5,vb b1),(6,vi n2),(7,vi n3),(57,vb b4)]) [] []) (aM b4 (.ret (.t [vi 0,vb false,vi 2],[])) (ob (bJ l0 n3) λ a => .call (.at_ 188 0 (fw 2815) (vh l0 b1 (if 100000<i64.wrap (i64.wrap (n2*10)+i64.wrap (u8.wrap ((a.toNat:Int)-48)))then 100000 else i64.wrap (i64.wrap (n2*10)+i64.wrap (u8.wrap ((a.toNat:Int)-48)))) (i64.wrap (n3+1))) [] []) .ret)):=bU
theorem rh(l0:mP)(n1:Int)(b2:Bool)(l3:List D)(b4:Bool)(n5:Int):EQ aF (.at_ 150 0 (fw 3359) (uK l0 n1 b2 l3 b4 n5) [(5,1)] []) (aH (decide ((0:Int)<=1/\1<=(l0.length:Int))) (.call (.at_ 150 0 (fw 159) (uK (List.take (l0.length-1) (List.drop 1 l0)) n1 b2 l3 b4 n5) [(5,1)] []) .ret)):=bU
theorem Lb(l0:mP)(n1:Int)(b2:Bool)(l3:List D)(n4:Int)(b5:Bool):EQ aF (.at_ 150 0 (fw 447) (Mk l0 n1 b2 l3 n4 b5) [(5,1)] []) (aM b5 (.ret (.t [vu 0,vi 2],[])) (cV (.call 188 [vs l0] []) λ o0=>cL o0 λ l1=>aH (l1.length==3) (bm (Ul l1 0) λ d2=>bR .i64 d2 λ n3=>bm (Ul l1 1) λ d4=>fN d4 λ b5=>bm (Ul l1 2) λ d6=>bR .i64 d6 λ n7=>aM (n7 != 0) (.ret (.t [vu 0,vi n7],[])) (aM (decide ((l3.length:Int)>60)) (.ret (.t [vu 0,vi 4],[])) (aM b5 (.ret (.t [vu 0,vi 5],[])) (.call (.at_ 150 0 (fw 45055) (H5 n1 b2 l3 n4 n3 true [] 0) [(11,1),(5,1)] []) .ret)))))):=bU
theorem Hj(l0:mP)(b1:Bool)(l2:List D)(b3:Bool)(l4:List D):EQ aF (.at_ 48 0 (fw 2047) (sv 147 [(3,vs l0),(6,vl b1 l2),(7,vl b3 l4)]) [] []) (cV (.call 103 [vl b1 l2] []) λ a=>bm a λ b=>bR .i64 b λ c=>cV (.call 103 [vl b3 l4] []) λ e=>bm e λ f=>bR .i64 f λ g => .call (.at_ 48 0 (fw 10239) (yQ l0 b1 l2 b3 l4 (i64.wrap (i64.wrap ((i64.wrap (i64.wrap (c-g)*30103)).tdiv 100000)-2))) [] []) .ret):=bU
theorem oU(n0:Int)(b1:Bool)(l2:List D)(n3 n4:Int)(b5:Bool)(l6:List D)(n7:Int):EQ aF (.at_ 150 0 (fw 45055) (H5 n0 b1 l2 n3 n4 b5 l6 n7) [(11,1),(5,1)] []) (aM (decide (n7<(l2.length:Int))) (cV (.call 105 [vl b5 l6,vl true [.i .u32 10]] []) λ a=>bm a λ b=>fT b λ c e=>ob (bJ l2 n7) λ f=>aH (f.width==1) (ob l2[n7.toNat]? λ g=>ob g.cells[0]? λ h=>bR .u8 h λ j=>cV (.call 101 [vu (u64.wrap j)] []) λ k=>bm k λ m=>fT m λ n o=>cV (.call 109 [vl c e,vl n o] []) λ p=>bm p λ q=>fT q λ r s => .call (.at_ 150 0 (fw 45055) (H5 n0 b1 l2 n3 n4 r s (i64.wrap (n7+1))) [(5,1)] []) .ret)) (aM (decide (i64.wrap (n4-n3) ≥ 0)) (cV (.call 106 [vi (i64.wrap (n4-n3))] []) λ t=>bm t λ zu=>fT zu λ v w=>cV (.call 105 [vl b5 l6,vl v w] []) λ x=>bm x λ y=>fT y λ z a0 => .call (.at_ 150 0 (fw 131071) (Bq n0 z a0 true [.i .u32 1]) [] []) .ret) (cV (.call 106 [vi (i64.wrap (0-i64.wrap (n4-n3)))] []) λ a1=>bm a1 λ a2=>fT a2 λ a3 a4 => .call (.at_ 150 0 (fw 131071) (Bq n0 b5 l6 a3 a4) [(11,1)] []) .ret))):=bU
theorem vg(l0:mP)(b1:Bool)(l2:List D)(b3:Bool)(l4:List D)(n5:Int):EQ aF (.at_ 48 0 (fw 10239) (yQ l0 b1 l2 b3 l4 n5) [] []) (cV (.call 104 [vl b1 l2,vl b3 l4,vi (i64.wrap (n5+1))] []) λ a=>bm a λ b=>fN b λ c=>aM c (.call (.at_ 48 0 (fw 10239) (yQ l0 b1 l2 b3 l4 (i64.wrap (n5+1))) [] []) .ret) (aM (decide (i64.wrap (16-n5) ≥ 0)) (cV (.call 106 [vi (i64.wrap (16-n5))] []) λ e=>bm e λ f=>fT f λ g h=>cV (.call 105 [vl b1 l2,vl g h] []) λ j=>bm j λ k=>fT k λ m n => .call (.at_ 48 0 (fw 32767) (yQ l0 m n b3 l4 n5) [] []) .ret) (cV (.call 106 [vi (i64.wrap (0-i64.wrap (16-n5)))] []) λ o=>bm o λ p=>fT p λ q r=>cV (.call 105 [vl b3 l4,vl q r] []) λ t=>bm t λ zu=>fT zu λ v w => .call (.at_ 48 0 (fw 32767) (yQ l0 b1 l2 v w n5) [] []) .ret))):=bU
theorem mg(n0:Int)(b1:Bool)(l2:List D)(n3 n4:Int)(b5:Bool)(l6:List D)(n7:Int):EQ aF (.at_ 150 0 (fw 45055) (H5 n0 b1 l2 n3 n4 b5 l6 n7) [(5,1)] []) (aM (decide (n7<(l2.length:Int))) (cV (.call 105 [vl b5 l6,vl true [.i .u32 10]] []) λ a=>bm a λ b=>fT b λ c e=>ob (bJ l2 n7) λ f=>aH (f.width==1) (ob l2[n7.toNat]? λ g=>ob g.cells[0]? λ h=>bR .u8 h λ j=>cV (.call 101 [vu (u64.wrap j)] []) λ k=>bm k λ m=>fT m λ n o=>cV (.call 109 [vl c e,vl n o] []) λ p=>bm p λ q=>fT q λ r s => .call (.at_ 150 0 (fw 45055) (H5 n0 b1 l2 n3 n4 r s (i64.wrap (n7+1))) [(5,1)] []) .ret)) (aM (decide (i64.wrap (n4-n3) ≥ 0)) (cV (.call 106 [vi (i64.wrap (n4-n3))] []) λ t=>bm t λ zu=>fT zu λ v w=>cV (.call 105 [vl b5 l6,vl v w] []) λ x=>bm x λ y=>fT y λ z a0 => .call (.at_ 150 0 (fw 131071) (Bq n0 z a0 true [.i .u32 1]) [] []) .ret) (cV (.call 106 [vi (i64.wrap (0-i64.wrap (n4-n3)))] []) λ a1=>bm a1 λ a2=>fT a2 λ a3 a4 => .call (.at_ 150 0 (fw 131071) (Bq n0 b5 l6 a3 a4) [] []) .ret))):=bU
theorem Cl(n0:Int)(b1:Bool)(l2:List D)(b3:Bool)(l4:List D):EQ aF (.at_ 150 0 (fw 131071) (Bq n0 b1 l2 b3 l4) [] []) (cV (.call 189 [vl b1 l2,vl b3 l4] []) λ a=>cL a λ c=>aH (c.length==2) (bm (Ul c 0) λ e=>bR .u64 e λ f=>bm (Ul c 1) λ g=>fN g λ h=>aM (!h) (.ret (.t [vu 0,vi 5],[])) (.ret (.t [vu (u64.wrap ((BitVec.ofInt u64.bits n0 ||| BitVec.ofInt u64.bits f).toNat:Int)),vi 0],[])))):=bU
theorem xz(n0:Int)(b1:Bool)(l2:List D)(b3:Bool)(l4:List D):EQ aF (.at_ 150 0 (fw 131071) (Bq n0 b1 l2 b3 l4) [(11,1)] []) (cV (.call 189 [vl b1 l2,vl b3 l4] []) λ a=>cL a λ c=>aH (c.length==2) (bm (Ul c 0) λ e=>bR .u64 e λ f=>bm (Ul c 1) λ g=>fN g λ h=>aM (!h) (.ret (.t [vu 0,vi 5],[])) (.ret (.t [vu (u64.wrap ((BitVec.ofInt u64.bits n0 ||| BitVec.ofInt u64.bits f).toNat:Int)),vi 0],[])))):=bU
theorem Ee(l0:mP)(b1:Bool)(l2:List D)(b3:Bool)(l4:List D)(n5:Int):EQ aF (.at_ 48 0 (fw 32767) (yQ l0 b1 l2 b3 l4 n5) [] []) (cV (.call 107 [vl b1 l2,vl b3 l4] []) λ a=>cL a λ c=>aH (c.length==3) (bm (Ul c 0) λ e=>fT e λ f g=>bm (Ul c 1) λ h=>fT h λ j k=>bm (Ul c 2) λ m=>fN m λ n=>cV (.call 109 [vl j k,vl j k] []) λ o=>bm o λ p=>fT p λ q r=>cV (.call 108 [vl q r,vl b3 l4] []) λ t=>bm t λ zu=>bR .i64 zu λ v=>aM (decide (v>0)) (.call (.at_ 48 0 (fw 458751) (MV l0 n5 f g true) [] []) .ret) (aM (v==0) (cV (.call 110 [vl f g] []) λ w=>bm w λ x=>bR .u64 x λ y => .call (.at_ 48 0 (fw 458751) (MV l0 n5 f g (y.tmod 2==1)) [] []) .ret) (.call (.at_ 48 0 (fw 458751) (MV l0 n5 f g false) [] []) .ret)))):=bU
theorem Cm(l0:mP)(n1:Int)(b2:Bool)(l3:List D)(b4:Bool):EQ aF (.at_ 48 0 (fw 458751) (MV l0 n1 b2 l3 b4) [] []) (aM b4 (cV (.call 101 [vu 1] []) λ a=>bm a λ c=>fT c λ e f=>cV (.call 109 [vl b2 l3,vl e f] []) λ g=>bm g λ h=>fT h λ j k=>cV (.call 110 [vl j k] []) λ m=>bm m λ n=>bR .u64 n λ o=>aM (o==100000000000000000) (.call (.at_ 48 0 (fw 1048575) (BA l0 (i64.wrap (n1+1)) (u64.wrap (o.tdiv 10))) [] []) .ret) (.call (.at_ 48 0 (fw 1048575) (BA l0 n1 o) [] []) .ret)) (cV (.call 110 [vl b2 l3] []) λ p=>bm p λ q=>bR .u64 q λ r=>aM (r==100000000000000000) (.call (.at_ 48 0 (fw 1048575) (BA l0 (i64.wrap (n1+1)) (u64.wrap (r.tdiv 10))) [] []) .ret) (.call (.at_ 48 0 (fw 1048575) (BA l0 n1 r) [] []) .ret))):=bU
theorem zA(l0:mP)(n1 n2:Int):EQ aF (.at_ 48 0 (fw 1048575) (BA l0 n1 n2) [] []) (cV (.call 100 [vu n2] []) λ a=>bm a λ b=>eF b λ c=>aH (decide ((0:Int)<=1/\1<=(c.length:Int))) (.call (.at_ 48 0 (fw 10485759) (Fa l0 n1 c (List.take (c.length-1) (List.drop 1 c))) [] []) .ret)):=bU
theorem oV(l0:mP)(n1:Int)(l2 l3:mP):EQ aF (.at_ 48 0 (fw 10485759) (Fa l0 n1 l2 l3) [] []) (aM (decide ((l3.length:Int)>1)) (ob (bJ l3 (i64.wrap ((l3.length:Int)-1))) λ a => .call (.at_ 48 0 (fw 102760447) (Rf l0 n1 l2 l3 ((a.toNat:Int)==48)) [] []) .ret) (.call (.at_ 48 0 (fw 102760447) (Rf l0 n1 l2 l3 false) [] []) .ret)):=bU
theorem oh(l0:mP)(n1:Int)(l2 l3:mP)(b4:Bool):EQ aF (.at_ 48 0 (fw 102760447) (Rf l0 n1 l2 l3 b4) [] []) (aM b4 (aH (decide (0<=i64.wrap ((l3.length:Int)-1)/\i64.wrap ((l3.length:Int)-1)<=(l3.length:Int))) (.call (.at_ 48 0 (fw 10485759) (Fa l0 n1 l2 (List.take ((i64.wrap ((l3.length:Int)-1)).toNat-0) (List.drop 0 l3))) [] []) .ret)) (aH (decide ((0:Int)<=1/\1<=(l2.length:Int))) (aH (decide (l0.length+(List.take 1 (List.drop 0 l2)).length<4611686018427387904)) (aH (decide ((l0++List.take 1 (List.drop 0 l2)).length+1<4611686018427387904)) (aH (decide ((l0++List.take 1 (List.drop 0 l2)++[46]).length+l3.length<4611686018427387904)) (aH (decide ((l0++List.take 1 (List.drop 0 l2)++[46]++l3).length+1<4611686018427387904)) (cV (.call 47 [vi n1] []) λ a=>bm a λ c=>eF c λ e=>aH (decide ((l0++List.take 1 (List.drop 0 l2)++[46]++l3++[101]).length+e.length<4611686018427387904)) (.ret (vs (l0++List.take 1 (List.drop 0 l2)++[46]++l3++[101]++e),[]))))))))):=bU
theorem my(k:IntKind)(n:Int):(D.i k n).cells[0]?=some (D.i k n):=rfl
theorem nc(k:IntKind)(n:Int):((D.i k n).width==1)=true:=rfl
theorem A9(b:Bool)(a:List Int)(ha:dR a)(hb:a.length<=1000000):∀n:Nat,n<=a.length->aV (a.take n)=aV a->
  rk prog aF (.at_ 152 0 (fw 19) (sv 23 [(0,vl b (ints .u32 a)),(3,vi (n:Int))]) [] [])=some (.d (nl (aV a)),[])
 |0,hn,hv=>by
  have h0:aV a=0:=by rw[<-hv];rfl
  have e:nl (aV a) = .l true []:=by rw[h0];exact oq cc
  rw[Ey,bn (by decide),aA,AF,bo,aJ (by simp),eR,aN];have e2:List.take (((0:Nat):Int).toNat-0) (List.drop 0 (ints .u32 a))=[]:=rfl;rw[e2,Hx,aN,aJ (by decide),aD,e];rfl
 |n+1,hn,hv=>by
  have hx:n<a.length:=by omega
  have gx:=List.getElem?_eq_getElem hx;have hw:i64.wrap (((n+1:Nat):Int)-1)=(n:Int):=U5;have hg:(ints .u32 a)[n]?=some (D.i .u32 a[n]):=by rw[eJ,gx];rfl
  rw[Ey,bz,hw,bQ,Int.toNat_natCast,aR hg,nc,aN,aR hg,aR (my _ _),bS,aA,AF];by_cases h0:a[n]=0
  ·have ih:=A9 b a ha hb n (by omega) (by rw[<-hv];exact(fM a n (by rw[gx,h0])).symm)
   rw[h0,dz (by rfl),hw,aA,ih]
  ·have e:nl (aV a) = .l (a.take (n+1)).isEmpty (ints .u32 (a.take (n+1))):=by rw[<-hv];exact oq (iQ ha hx h0)
   have e2:List.take ((((n+1:Nat):Int)).toNat-0) (List.drop 0 (ints .u32 a))=ints .u32 (a.take (n+1)):=by rw[List.drop_zero,mT];rfl
   rw[cF (beq_eq_false_iff_ne.2 h0),aJ (by rw[cN];omega),eR,aN,e2,eR,aN,aJ (by rw[cN,List.length_take];omega),aD,e,iq,List.nil_append]
theorem pg(b:Bool)(a:List Int)(ha:dR a)(hb:a.length<=1000000):rk prog aF (.call 152 [vl b (ints .u32 a)] [])=some (.d (nl (aV a)),[]):=by rw[f58,aA,cN];exact A9 b a ha hb a.length (Nat.le_refl _) (by rw[List.take_length])
theorem yj(a:List Int)(ha:dR a)(hb:a.length<=1000000):∀n:Nat,n<=a.length->aV (a.take n)=aV a->
  rk prog aF (.at_ 152 1 (fw 19) (sv 23 [(0,V.m 0 0 a.length),(3,vi (n:Int))]) [] [Ob.cells (cellsOf a) []])=some (.d (nl (aV a)),[Ob.cells (cellsOf a) []])
 |0,hn,hv=>by
  have h0:aV a=0:=by rw[<-hv];rfl
  have e:nl (aV a) = .l true []:=by rw[h0];exact oq cc
  have hv0:dn [Ob.cells (cellsOf a) []] 1 (V.m 0 0 (((0:Nat):Int).toNat-0))=some (ints .u32 (a.take 0)):=jY a 0 (by omega);rw[xG,bn (by decide),aA,vp,bo,aJ (by simp),aR hv0,eR,aN,aJ (by simp),aD,e];rfl
 |n+1,hn,hv=>by
  have hx:n<a.length:=by omega
  have gx:=List.getElem?_eq_getElem hx;have hw:i64.wrap (((n+1:Nat):Int)-1)=(n:Int):=U5;have hg:(cellsOf a)[0+n]?=some (V.d (D.i .u32 a[n])):=by rw[Nat.zero_add,dq,gx];rfl
  have hni:(0:Int)<=(n:Int)/\(n:Int)<(a.length:Int):=by omega
  rw[xG,bz,hw,aJ hni,Int.toNat_natCast,aR hg,bM,bS,aA,vp];by_cases h0:a[n]=0
  ·have ih:=yj a ha hb n (by omega) (by rw[<-hv];exact(fM a n (by rw[gx,h0])).symm)
   rw[h0,dz (by rfl),hw,aA,ih]
  ·have e:nl (aV a) = .l (a.take (n+1)).isEmpty (ints .u32 (a.take (n+1))):=by rw[<-hv];exact oq (iQ ha hx h0)
   have hv1:dn [Ob.cells (cellsOf a) []] 1 (V.m 0 0 ((((n+1:Nat):Int)).toNat-0))=some (ints .u32 (a.take (n+1))):=jY a (n+1) (by omega);rw[cF (beq_eq_false_iff_ne.2 h0),aJ,aR hv1,eR,aN,aJ (by rw[cN,List.length_take];omega),aD,e,iq,List.nil_append]
theorem uu(a:List Int)(ha:dR a)(hb:a.length<=1000000):rk prog aF (.call 152 [V.m 0 0 a.length] [Ob.cells (cellsOf a) []])=some (.d (nl (aV a)),[Ob.cells (cellsOf a) []]):=by rw[WB,aA];exact yj a ha hb a.length (Nat.le_refl _) (by rw[List.take_length])
theorem FU(b:Bool)(x:Nat)(hx:Fits x):rk prog aF (.call 152 [vl b (ws x)] [])=some (.d (.l (nb x) (ws x)),[]):=by have:=pg b (aQ x) (cU x) (by have:=hx.len;omega);rw[cQ]at this;exact this
theorem yA(n:Nat)(h:n<18446744073709551616):rk prog aF (.call 101 [vu (n:Int)] [])=some (.d (.l (nb n) (ws n)),[]):=by
 rw[f30];have e:[D.i u32 (u32.wrap n),D.i u32 (u32.wrap ((n:Int).fdiv 4294967296))]=ints .u32 [((n%W:Nat):Int),((n / W:Nat):Int)]:=by rw[dj,dj,nL,sK,nP (by unfold W;omega)];rfl
 have hv:aV [((n%W:Nat):Int),((n / W:Nat):Int)]=n:=by simp only[aV,Int.toNat_natCast];have:=Nat.mod_add_div n W;omega
 have hu:dR [((n%W:Nat):Int),((n / W:Nat):Int)]:=by
  intro z hz;have h1:=Nat.mod_lt n iw;have h2:n / W<4294967296:=by unfold W;omega
  unfold W at *;simp at hz;rcases hz with rfl|rfl<;>omega
 have hc:=pg true _ hu (by simp);rw[hv,mJ]at hc;rw[e,eE hc,aD]
def dg(x i:Nat):Nat:=x / W^i%W
theorem qu(x i:Nat):dg x i<4294967296:=Nat.mod_lt _ iw
theorem ik{x i:Nat}(h:(aQ x).length<=i):x / W^i=0:=by refine Nat.div_eq_of_lt (Nat.lt_of_lt_of_le (gm x) (Nat.pow_le_pow_right iw h))
theorem P3{x i:Nat}(h:i<(aQ x).length):(ws x)[i]?=some (D.i .u32 ((dg x i:Nat):Int)):=by rw[ws,eJ,AY x i h];rfl
theorem ld(b:Bool)(x i:Nat):rk prog aF (.call 155 [vl b (ws x),vi (i:Int)] [])=some (.d (.i .u64 ((dg x i:Nat):Int)),[]):=by
 rw[f57,dP];by_cases h:i<(aQ x).length
 ·have hl:=qu x i;have hw:u64.wrap ((dg x i:Nat):Int)=((dg x i:Nat):Int):=by rw[aT];omega
  rw[bz,bQ,aR (P3 h),nc,aN,Int.toNat_natCast,aR (P3 h),aR (my _ _),bS,aD,hw]
 ·rw[bn,aD];have:dg x i=0:=by unfold dg;rw[ik (by omega)];exact Nat.zero_mod _
  rw[this];rfl
theorem wH(b:Bool)(x i:Nat)(hi:i<1000000000):rk prog aF (.call 153 [vl b (ws x),vi (i:Int)] [])=some (.d (.i .u64 ((x / 2^i%2:Nat):Int)),[]):=by
 rw[f59];have e1:(i:Int).tdiv 32=((i / 32:Nat):Int):=fG i 32;have e2:(i:Int).tmod 32=((i%32:Nat):Int):=kr i 32;have hw:i64.wrap ((i / 32:Nat):Int)=((i / 32:Nat):Int):=U5;have hm:min (((i%32:Nat):Int)).toNat 64=i%32:=by rw[Int.toNat_natCast];omega
 have hd:=qu x (i / 32);have hf:((dg x (i / 32):Nat):Int).fdiv (2^(i%32))=((dg x (i / 32) / 2^(i%32):Nat):Int):=by
  have:=kg (dg x (i / 32)) (2^(i%32))
  rwa[Int.natCast_pow]at this
 have hle:dg x (i / 32) / 2^(i%32)<18446744073709551616:=Nat.lt_of_le_of_lt (Nat.div_le_self _ _) (by omega);have ha:(BitVec.ofInt u64.bits ((dg x (i / 32) / 2^(i%32):Nat):Int) &&& BitVec.ofInt u64.bits 1).toNat=x / 2^i%2:=by
  show (BitVec.ofInt 64 ((dg x (i / 32) / 2^(i%32):Nat):Int) &&& BitVec.ofInt 64 1).toNat=_;rw[BitVec.toNat_and,BitVec.ofInt_natCast,BitVec.toNat_ofNat];have:(BitVec.ofInt 64 1).toNat=1:=by decide
  rw[this,Nat.and_one_is_mod,<-DI x i];unfold dg;unfold dg at hle;rw[Nat.mod_eq_of_lt (show _<2^64 from hle)]
 have hw2:u64.wrap ((x / 2^i%2:Nat):Int)=((x / 2^i%2:Nat):Int):=by rw[aT];omega
 rw[e1,hw,ed (ld b x (i / 32)),e2,hm,hf,ha,hw2,aJ,aD]
theorem yx(b:Bool)(x:Nat):∀n:Nat,n<1000000000->x<2^n->
  rk prog aF (.at_ 103 0 (fw 39) (sv 22 [(3,vl b (ws x)),(4,vi (n:Int))]) [] [])=some (.d (.i .i64 (bE x:Nat)),[])
 |0,hn,hx=>by
  have:x=0:=by simpa using hx
  subst this;rw[Ep,bn (by decide),aA,AB,bo,aD];rfl
 |n+1,hn,hx=>by
  have hw:i64.wrap (((n+1:Nat):Int)-1)=(n:Int):=U5;rw[Ep,bz,hw,ed (wH b x n (by omega)),aA,AB];have hd:x / 2^n<2:=Nat.div_lt_of_lt_mul (by rw[Nat.mul_comm,Nat.mul_comm,<-Nat.pow_succ];exact hx);by_cases h:x<2^n
  ·have e:x / 2^n%2=0:=by rw[Nat.div_eq_of_lt h]
   rw[e,dz (by rfl),hw,aA];exact yx b x n (by omega) h
  ·have e:x / 2^n%2=1:=by have:0<x / 2^n:=Nat.div_pos (by omega) (Nat.pow_pos (by decide));omega
   rw[e,cF (by rfl),aD,B6 (by omega) hx]
theorem pw(b:Bool)(x:Nat)(hx:Fits x):rk prog aF (.call 103 [vl b (ws x)] [])=some (.d (.i .i64 (bE x:Nat)),[]):=by have hl:=hx.len;have hw:i64.wrap (32*((aQ x).length:Int))=((32*(aQ x).length:Nat):Int):=U5;rw[f41,eE (FU b x hx),dP,hw,aA];exact yx (nb x) x (32*(aQ x).length) (by omega) (by rw[<-nu];exact gm x)
theorem so(x i:Nat):x / W^i=W*(x / W^(i+1))+dg x i:=by unfold dg;rw[Nat.pow_succ,<-Nat.div_div_eq_div_mul];exact(Nat.div_add_mod _ _).symm
theorem Bt(b c:Bool)(x y:Nat):∀n:Nat,n<1000000000->x / W^n=y / W^n->
  rk prog aF (.at_ 108 0 (fw 21) (sv 30 [(0,vl b (ws x)),(1,vl c (ws y)),(5,vi ((n:Int)-1))]) [] [])=some (.d (.i .i64 (fV x y)),[])
 |0,hn,h=>by
  have:x=y:=by simpa using h
  subst this;rw[Er,bn (by decide),aD];simp[fV]
 |n+1,hn,h=>by
  have e0:((n+1:Nat):Int)-1=(n:Int):=by omega
  have hw:i64.wrap ((n:Int)-1)=(n:Int)-1:=U5;have sx:=so x n;rw[h]at sx;have sy:=so y n;have hlt:∀p q:Nat,p / W^n<q / W^n->p<q:=λ p q h=>by
   rcases Nat.lt_or_ge p q with h1|h1
   ·exact h1
   ·exact absurd (Nat.div_le_div_right (c:=W^n) h1) (by omega)
  rw[e0,Er,bz,ed (ld b x n),ed (ld c y n)];by_cases h1:dg x n<dg y n
  ·have:=hlt x y (by omega)
   rw[bz,aD,fV,if_pos this]
  ·rw[bn,ed (ld b x n),ed (ld c y n)];by_cases h2:dg y n<dg x n
   ·have:=hlt y x (by omega)
    rw[bz,aD,fV,UM,if_pos this]
   ·rw[bn,hw,aA];exact Bt b c x y n (by omega) (by omega)
theorem sY(b c:Bool)(x y:Nat)(hx:Fits x)(hy:Fits y):rk prog aF (.call 108 [vl b (ws x),vl c (ws y)] [])=some (.d (.i .i64 (fV x y)),[]):=by
 have lx:=hx.len;have ly:=hy.len;have e:i64.wrap ((if ((ws y).length:Int)>((ws x).length:Int) then((ws y).length:Int) else((ws x).length:Int))-1)=((max (aQ x).length (aQ y).length:Nat):Int)-1:=by
  rw[dP,dP,wrap_i64]
  ·split<;>omega
  ·split<;>omega
  ·split<;>omega
 rw[f44,e,aA];exact Bt b c x y _ (by omega) (by rw[ik (by omega),ik (by omega)])
theorem s6(b:Bool)(x:Nat):rk prog aF (.call 110 [vl b (ws x)] [])=some (.d (.i .u64 ((x%18446744073709551616:Nat):Int)),[]):=by
 have h0:rk prog aF (.call 155 [vl b (ws x),vi 0] [])=_:=ld b x 0;have h1:rk prog aF (.call 155 [vl b (ws x),vi 1] [])=_:=ld b x 1;have d0:=qu x 0;have d1:=qu x 1;have e0:dg x 0=x%4294967296:=by unfold dg;rw[Nat.pow_zero,Nat.div_one];rfl
 have e1:dg x 1=x / 4294967296%4294967296:=by unfold dg;rw[Nat.pow_one];rfl
 have hw:u64.wrap (((dg x 1:Nat):Int)*4294967296)=((dg x 1*2^32:Nat):Int):=by rw[aT];omega
 have hor:(BitVec.ofInt u64.bits ((dg x 0:Nat):Int) ||| BitVec.ofInt u64.bits ((dg x 1*2^32:Nat):Int)).toNat=x%18446744073709551616:=by have:=k6 (a:=dg x 0) (b:=dg x 1*2^32) (by omega) (by omega);rw[ps (by omega)]at this;refine Eq.trans this ?_;omega
 have hw2:u64.wrap ((x%18446744073709551616:Nat):Int)=((x%18446744073709551616:Nat):Int):=by rw[aT];omega
 rw[f45,ed h0,ed h1,hw,hor,hw2,aD]
def Vs(b1 b2:Bool)(x y:Nat)(b4:Bool)(out:List Int)(c i:Nat):Task:=
 Task.at_ 109 0 (fw 87) (sv 42 [(0,vl b1 (ws x)),(1,vl b2 (ws y)),(5,vl b4 (ints .u32 out)),(6,vu (c:Int)),(7,vi (i:Int))]) [(5,1)] []
theorem Bs(b1 b2:Bool)(x y:Nat)(b4:Bool)(out:List Int)(c i:Nat)(hi:i<=1000000)(hl:out.length=i)(hc:c<4294967296):
  rk prog aF (.at_ 109 0 (fw 791)
   (Li b1 (ws x) b2 (ws y) b4 (ints .u32 out) (c:Int) (i:Int) true) [(5,1)] [])=
  rk prog aF (Vs b1 b2 x y false (out++[(((c+dg x i+dg y i)%W:Nat):Int)]) ((c+dg x i+dg y i) / W) (i+1)):=by
 have d1:=qu x i;have d2:=qu y i;have w1:u64.wrap ((c:Int)+((dg x i:Nat):Int))=((c+dg x i:Nat):Int):=by rw[aT];omega
 have w2:u64.wrap (((c+dg x i:Nat):Int)+((dg y i:Nat):Int))=((c+dg x i+dg y i:Nat):Int):=by rw[aT];omega
 have w3:u32.wrap ((c+dg x i+dg y i:Nat):Int)=(((c+dg x i+dg y i)%W:Nat):Int):=by rw[dj,sK]
 have w4:=Wv i;rw[tZ,bF,ed (ld b1 x i),ed (ld b2 y i),eR,aN,Bool.or_true,aN,aJ (by rw[cN];omega),Bool.and_false,w1,w2,w3,w4,nL,ja,aA];rfl
theorem L9(b1 b2:Bool)(x y:Nat)(L:Nat)(hLx:(aQ x).length<=L)(hLy:(aQ y).length<=L)(hL:L<=100000):∀(d i:Nat) (b4:Bool) (out:List Int) (c:Nat),i+d=L+1->dR out->out.length=i->c<2->aV out+W^i*(c+x / W^i+y / W^i)=x+y->(d=0->c=0)->
  rk prog aF (Vs b1 b2 x y b4 out c i)=some (.d (.l (nb (x+y)) (ws (x+y))),[]):=by
 intro d
 induction d with
 |zero=>
  intro i b4 out c hi hu hl hc hv h0;have zx:x / W^i=0:=ik (by omega);have zy:y / W^i=0:=ik (by omega);rw[zx,zy,h0 rfl]at hv;have hn:=pg b4 out hu (by omega);rw[show aV out=x+y by simpa using hv,mJ]at hn;unfold Vs;rw[El,dP,dP,bn,bn,aA,tZ,h0 rfl,cF (by rfl),eE hn,aD]
 |succ d ih=>
  intro i b4 out c hi hu hl hc hv h0;have d1:=qu x i;have d2:=qu y i;have sx:=so x i;have sy:=so y i;have step:rk prog aF (Vs b1 b2 x y false (out++[(((c+dg x i+dg y i)%W:Nat):Int)]) ((c+dg x i+dg y i) / W) (i+1))=some (.d (.l (nb (x+y)) (ws (x+y))),[]):=by
   have hq:(c+dg x i+dg y i) / W<2:=Nat.div_lt_of_lt_mul (by unfold W;omega);refine ih (i+1) false _ _ (by omega) (hu.snoc (Nat.mod_lt _ iw)) (by simp[hl]) hq ?_ ?_
   ·rw[ef,hl,<-hv,sx,sy];have e:=Nat.mod_add_div (c+dg x i+dg y i) W;simp only[aV,Int.toNat_natCast,Nat.mul_zero,Nat.add_zero];rw[Nat.pow_succ,Nat.mul_assoc,Nat.add_assoc,<-Nat.mul_add];congr 2;rw[Nat.mul_add,Nat.mul_add];omega
   ·intro hd;have zx:dg x i=0:=by unfold dg;rw[ik (by omega)];exact Nat.zero_mod _
    have zy:dg y i=0:=by unfold dg;rw[ik (by omega)];exact Nat.zero_mod _
    rw[zx,zy];exact Nat.div_eq_of_lt (by unfold W;omega)
  rw[<-step,<-Bs b1 b2 x y b4 out c i (by omega) hl (by omega)];unfold Vs;rw[El,dP,dP];by_cases h1:i<(aQ x).length
  ·rw[bz,aA]
  ·rw[bn];by_cases h2:i<(aQ y).length
   ·rw[bz,aA]
   ·rw[bn,aA];by_cases h3:0<c
    ·rw[show decide ((c:Int)>0)=true from decide_eq_true (by omega)]
    ·-- nothing is left
     have hc0:c=0:=by omega
     have zx:x / W^i=0:=ik (by omega);have zy:y / W^i=0:=ik (by omega);rw[zx,zy,hc0]at hv;have hn:=pg b4 out hu (by omega);rw[show aV out=x+y by simpa using hv,mJ]at hn;rw[show decide ((c:Int)>0)=false from decide_eq_false (by omega),tZ,bo,eE hn,aD,Bs b1 b2 x y b4 out c i (by omega) hl (by omega),step]
theorem nV(b c:Bool)(x y:Nat)(hx:Fits x)(hy:Fits y):rk prog aF (.call 109 [vl b (ws x),vl c (ws y)] [])=some (.d (.l (nb (x+y)) (ws (x+y))),[]):=by have lx:=hx.len;have ly:=hy.len;rw[f28,aA];exact L9 b c x y (max (aQ x).length (aQ y).length) (by omega) (by omega) (by omega) _ 0 true [] 0 (by rw[Nat.zero_add]) dR.nil rfl (by decide) (by simp[aV]) (by omega)
def W9(b1 b2:Bool)(x y:Nat)(b4:Bool)(out:List Int)(c i:Nat):Task:=
 Task.at_ 154 0 (fw 175) (sv 40 [(0,vl b1 (ws x)),(1,vl b2 (ws y)),(6,vl b4 (ints .u32 out)),(7,vu (c:Int)),(8,vi (i:Int))]) [(6,1)] []
theorem mod_pow_succ(x i:Nat):x%W^(i+1)=x%W^i+W^i*dg x i:=by unfold dg;rw[Nat.pow_succ,Nat.mod_mul]
theorem Mj(b1 b2:Bool)(x y:Nat)(hyx:y<=x)(hL:(aQ x).length<=100000):∀(d i:Nat) (b4:Bool) (out:List Int) (c:Nat),i+d=(aQ x).length->dR out->out.length=i->c<2->aV out+y%W^i=x%W^i+W^i*c->
  rk prog aF (W9 b1 b2 x y b4 out c i)=some (.t [.d (.l (nb (x-y)) (ws (x-y))),.d (.b true)],[]):=by
 intro d
 induction d with
 |zero=>
  intro i b4 out c hi hu hl hc hv;have hxl:=gm x;have hil:i=(aQ x).length:=by omega
  subst hil;rw[Nat.mod_eq_of_lt hxl,Nat.mod_eq_of_lt (Nat.lt_of_le_of_lt hyx hxl)]at hv;have hvl:=pK hu;rw[hl]at hvl;have hc0:c=0:=by
   rcases Nat.eq_zero_or_pos c with h|h
   ·exact h
   ·have:c=1:=by omega
    rw[this]at hv;omega
  rw[hc0]at hv;have hn:=pg b4 out hu (by omega);rw[show aV out=x-y by omega,mJ]at hn;unfold W9;rw[AG,dP,bn,eE hn,aD]
 |succ d ih=>
  intro i b4 out c hi hu hl hc hv;have d1:=qu x i;have d2:=qu y i;obtain⟨D,hD⟩:∃D,D=dg x i+4294967296-dg y i-c:=⟨_,rfl⟩
  have w1:u64.wrap (((dg x i:Nat):Int)+4294967296)=((dg x i+4294967296:Nat):Int):=by rw[aT];omega
  have w2:u64.wrap (((dg x i+4294967296:Nat):Int)-((dg y i:Nat):Int))=((dg x i+4294967296-dg y i:Nat):Int):=by rw[aT];omega
  have w3:u64.wrap (((dg x i+4294967296-dg y i:Nat):Int)-(c:Int))=(D:Int):=by rw[aT];omega
  obtain⟨R,Q,hR,hQ,e⟩:∃R Q,D%W=R/\D / W=Q/\R+4294967296*Q=D:=⟨_,_,rfl,rfl,Nat.mod_add_div D W⟩
  have hR32:R<4294967296:=hR▸Nat.mod_lt _ iw;have w4:u32.wrap (D:Int)=(R:Int):=by rw[dj,sK,hR]
  have hq:Q<=1:=by omega
  have w5:u64.wrap (1-(D:Int).fdiv 4294967296)=((1-Q:Nat):Int):=by rw[nL,hQ,aT];omega
  have w6:=Wv i;have ih':=ih (i+1) false (out++[(R:Int)]) (1-Q) (by omega) (hu.snoc hR32) (by simp[hl]) (by omega) (by
   rw[ef,hl,mod_pow_succ,mod_pow_succ];simp only[aV,Int.toNat_natCast,Nat.mul_zero,Nat.add_zero];have k:R+dg y i+c=dg x i+W*(1-Q):=by
    rcases Nat.lt_or_ge Q 1 with h|h
    ·have:Q=0:=by omega
     rw[this]at e⊢;unfold W;omega
    ·have:Q=1:=by omega
     rw[this]at e⊢;unfold W;omega
   have k2:W^i*R+W^i*dg y i+W^i*c=W^i*dg x i+W^(i+1)*(1-Q):=by rw[<-Nat.mul_add,<-Nat.mul_add,k,Nat.mul_add,Nat.pow_succ,Nat.mul_assoc]
   omega)
  unfold W9 at ih' ⊢;rw[AG,dP,bz,ed (ld b1 x i),ed (ld b2 y i),eR,aN,Bool.or_true,aN,aJ (by rw[cN];omega),Bool.and_false,w1,w2,w3,w4,w5,w6,ja,aA];exact ih'
theorem RB(b c:Bool)(x y:Nat)(hx:Fits x)(hy:Fits y):rk prog aF (.call 154 [vl b (ws x),vl c (ws y)] [])=some (if x<y then .t [.d (.l true []),.d (.b false)]else .t [.d (.l (nb (x-y)) (ws (x-y))),.d (.b true)],[]):=by
 have lx:=hx.len;rw[f69,ed (sY b c x y hx hy)];by_cases h:x<y
 ·rw[if_pos h,bz (by unfold fV;rw[if_pos h];decide),aD]
 ·rw[if_neg h,bn (by unfold fV;rw[if_neg h];split<;>decide),aA]
  exact Mj b c x y (by omega) (by omega) _ 0 true [] 0 (by rw[Nat.zero_add]) dR.nil rfl (by decide) (by simp[aV,Nat.mod_one])
def UJ(bx by_:Bool)(x y:List Int)(n i c k:Nat)(out:List Int):Task:=
 Task.at_ 105 0 (fw 10827)
  (Ri bx (ints .u32 x) by_ (ints .u32 y) (V.m 0 0 n) (i:Int) (c:Int) (k:Int)) [] [Ob.cells (cellsOf out) []]
def SA(bx by_:Bool)(x y:List Int)(n i:Nat)(out:List Int):Task:=
 Task.at_ 105 0 (fw 43) (sv 68 [(0,vl bx (ints .u32 x)),(1,vl by_ (ints .u32 y)),(5,V.m 0 0 n),(6,vi (i:Int))]) [] [Ob.cells (cellsOf out) []]
theorem Ih(bx by_:Bool)(xs y:List Int)(hxs:dR xs)(hy:dR y)(i n x:Nat)(hi:i<xs.length)(ex:xs[i]=(x:Int))(hx:x<4294967296)(hn:i+y.length<n)(hyl:n<=1000000):
  ∀(d k:Nat) (c:Nat) (out:List Int),k+d=y.length->dR out->out.length=n->c<4294967296->(∀j,i+y.length<=j->j<out.length->out[j]?=some 0)->
  ∃(c':Nat) (out':List Int),dR out'/\out'.length=n/\c'<4294967296/\(∀j,i+y.length<=j->j<out'.length->out'[j]?=some 0)/\
   aV out'+W^(i+y.length)*c'=aV out+W^(i+k)*(c+x*aV (y.drop k))/\
   rk prog aF (UJ bx by_ xs y n i c k out)=rk prog aF (UJ bx by_ xs y n i c' y.length out'):=by
 intro d
 induction d with
 |zero=>
  intro k c out hk hu hl hc hz;have hky:k=y.length:=by omega
  subst hky;refine⟨c,out,hu,hl,hc,hz,?_,rfl⟩;rw[List.drop_length];simp[aV]
 |succ d ih=>
  intro k c out hk hu hl hc hz;have hky:k<y.length:=by omega
  have gy:=List.getElem?_eq_getElem hky;have gx:=List.getElem?_eq_getElem hi;obtain⟨w,ew,hw32⟩:=hy.get hky;have hj:i+k<out.length:=by omega
  have gj:=List.getElem?_eq_getElem hj;obtain⟨o,eo,ho32⟩:=hu.get hj;have hm:=TP hx hw32;have hT:c+o+x*w<18446744073709551616:=by omega
  have hmod:(c+o+x*w)%W<4294967296:=Nat.mod_lt _ iw;have hdiv:(c+o+x*w) / W<4294967296:=by unfold W;omega
  obtain⟨c',out',u1,u2,u3,u4,u5,u6⟩:=ih (k+1) ((c+o+x*w) / W) (out.set (i+k) (((c+o+x*w)%W:Nat):Int)) (by omega) (hu.set _ hmod) (by simpa using hl) hdiv (B0 hz (by omega) _);refine⟨c',out',u1,u2,u3,u4,?_,?_⟩
  ·rw[u5];have hs:=lZ out (i+k) (((c+o+x*w)%W:Nat):Int) hj;rw[eo]at hs;simp only[Int.toNat_natCast]at hs;have hd:=Nat.mod_add_div (c+o+x*w) W;rw[kU hky,ew];simp only[Int.toNat_natCast];have e1:W^(i+(k+1))*((c+o+x*w) / W+x*aV (y.drop (k+1)))=W^(i+k)*(W*((c+o+x*w) / W))+W^(i+k)*(W*(x*aV (y.drop (k+1)))):=by rw[show i+(k+1)=(i+k)+1 from rfl,Nat.pow_succ,Nat.mul_assoc,Nat.mul_add,Nat.mul_add]
   have e2:W^(i+k)*(c+x*(w+W*aV (y.drop (k+1))))=W^(i+k)*(c+x*w)+W^(i+k)*(W*(x*aV (y.drop (k+1)))):=by rw[<-Nat.mul_add];congr 1;rw[Nat.mul_add,<-Nat.add_assoc];congr 1;rw[Nat.mul_left_comm]
   rw[e1,e2];have e3:W^(i+k)*((c+o+x*w)%W)+W^(i+k)*(W*((c+o+x*w) / W))=W^(i+k)*(c+x*w)+W^(i+k)*o:=by rw[<-Nat.mul_add,hd,<-Nat.mul_add];congr 1;omega
   omega
  ·rw[<-u6];unfold UJ;have hw1:i64.wrap ((i:Int)+(k:Int))=((i+k:Nat):Int):=U5;have hw2:=Wv k;have ho:u64.wrap (o:Int)=(o:Int):=by rw[aT];omega
   have hxw:u64.wrap (x:Int)=(x:Int):=by rw[aT];omega
   have hww:u64.wrap (w:Int)=(w:Int):=by rw[aT];omega
   have hp:u64.wrap ((x:Int)*(w:Int))=((x*w:Nat):Int):=by rw[<-Int.natCast_mul,aT,dZ (by omega)]
   have hco:u64.wrap ((c:Int)+(o:Int))=((c+o:Nat):Int):=by rw[aT];omega
   have hw3:u64.wrap (((c+o:Nat):Int)+((x*w:Nat):Int))=((c+o+x*w:Nat):Int):=by rw[<-Int.natCast_add,aT,dZ hT]
   have hw4:u32.wrap ((c+o+x*w:Nat):Int)=(((c+o+x*w)%W:Nat):Int):=by rw[dj,sK]
   have hw5:((c+o+x*w:Nat):Int).fdiv 4294967296=(((c+o+x*w) / W:Nat):Int):=nL _;generalize (c+o+x*w:Nat)=T at hw3 hw4 hw5⊢;have hb1:(0:Int)<=((i+k:Nat):Int)/\((i+k:Nat):Int)<(n:Int):=by omega
   have hb2:0+(i+k)<(cellsOf out).length:=by rw[eP];omega
   have ho1:(cellsOf out)[0+(i+k)]?=some (V.d (D.i .u32 (o:Int))):=by rw[Nat.zero_add,dq,gj,eo];rfl
   have hx1:(ints .u32 xs)[i]?=some (D.i .u32 (x:Int)):=by rw[eJ,gx,ex];rfl
   have hy1:(ints .u32 y)[k]?=some (D.i .u32 (w:Int)):=by rw[eJ,gy,ew];rfl
   rw[vo,cN,bz,hw1,aJ hb1,Int.toNat_natCast,Int.toNat_natCast,Int.toNat_natCast,aR ho1,bM,bS,bQ,aR hx1,nc,aN,aR hx1,aR (my _ _),bS,bQ,aR hy1,nc,aN,aR hy1,aR (my _ _),bS,
    aJ hb1,Bool.and_true,aJ hb2,ho,hxw,hww,hp,hco,hw3,hw4,hw5,hw2,Nat.zero_add,ij,aA]
theorem O5(bx by_:Bool)(x y:List Int)(hx:dR x)(hy:dR y)(n:Nat)(hn:n=x.length+y.length+1)(hb:n<=1000000)(i:Nat)(hi:i<x.length)(out:List Int)(hu:dR out)(hl:out.length=n)(hz:∀j,i+y.length<=j->j<out.length->out[j]?=some 0):
  ∃out',dR out'/\out'.length=n/\(∀j,(i+1)+y.length<=j->j<out'.length->out'[j]?=some 0)/\aV out'=aV out+W^i*(x[i].toNat*aV y)/\
   rk prog aF (SA bx by_ x y n i out)=rk prog aF (SA bx by_ x y n (i+1) out'):=by
 obtain⟨a,ea,ha32⟩:=hx.get hi;obtain⟨c',o',u1,u2,u3,u4,u5,u6⟩:=Ih bx by_ x y hx hy i n a hi ea ha32 (by omega) hb y.length 0 0 out (by omega) hu hl (by decide) hz;have hj:i+y.length<o'.length:=by omega
 refine⟨o'.set (i+y.length) (c':Int),u1.set _ u3,by simpa using u2,λ j h1 h2=>?_,?_,?_⟩
 ·rw[List.getElem?_set_ne (by omega)]
  exact u4 j (by omega) (by simpa using h2)
 ·have hs:=lZ o' (i+y.length) (c':Int) hj;have h0:o'[i+y.length]=0:=by have:=u4 (i+y.length) (Nat.le_refl _) hj;rw[List.getElem?_eq_getElem hj]at this;exact Option.some.inj this
  rw[h0]at hs;simp only[Int.toNat_natCast,Int.toNat_zero,Nat.mul_zero,Nat.add_zero]at hs;rw[hs,u5,List.drop_zero,Nat.add_zero,Nat.zero_add,ea,Int.toNat_natCast]
 ·have e1:rk prog aF (SA bx by_ x y n i out)=rk prog aF (UJ bx by_ x y n i 0 0 out):=by unfold SA UJ;rw[Em,cN,bz,aA];rfl
  rw[e1,u6];unfold UJ SA;have hw1:i64.wrap ((i:Int)+(y.length:Int))=((i+y.length:Nat):Int):=U5;have hw2:=Wv i;have hw4:u32.wrap (c':Int)=(c':Int):=by rw[dj,nP u3]
  have hb1:(0:Int)<=((i+y.length:Nat):Int)/\((i+y.length:Nat):Int)<(n:Int):=by omega
  have hb2:0+(i+y.length)<(cellsOf o').length:=by rw[eP];omega
  rw[vo,cN,bn,hw1,hw2,hw4,aJ hb1,Int.toNat_natCast,Bool.and_true,aJ hb2,Nat.zero_add,ij,aA]
theorem Ii(bx by_:Bool)(x y:List Int)(hx:dR x)(hy:dR y)(n:Nat)(hn:n=x.length+y.length+1)(hb:n<=1000000):∀(d i:Nat) (out:List Int),i+d=x.length->dR out->out.length=n->(∀j,i+y.length<=j->j<out.length->out[j]?=some 0)->aV out=aV (x.take i)*aV y->
  rk prog aF (SA bx by_ x y n i out)=some (.d (.l (nb (aV x*aV y)) (ws (aV x*aV y))),[]):=by
 intro d
 induction d with
 |zero=>
  intro i out hi hu hl hz hv;have hix:i=x.length:=by omega
  subst hix;rw[List.take_length]at hv;unfold SA;have hc:=uu out hu (by omega);rw[hl,hv,mJ]at hc;rw[Em,cN,bn,cp hc,jJ,iv,beq_self_eq_true,aN,show (([]:Fl)==[])=true from rfl,aN,kI];rfl
 |succ d ih=>
  intro i out hi hu hl hz hv;have hix:i<x.length:=by omega
  obtain⟨o',u1,u2,u3,u4,u5⟩:=O5 bx by_ x y hx hy n hn hb i hix out hu hl hz;rw[u5];refine ih (i+1) o' (by omega) u1 u2 u3 ?_;rw[u4,hv,List.take_add_one,List.getElem?_eq_getElem hix,ef];simp only[Option.toList_some,aV,Nat.mul_zero,Nat.add_zero,List.length_take,Nat.min_eq_left (Nat.le_of_lt hix)];rw[Nat.add_mul,Nat.mul_assoc]
theorem nX(b c:Bool)(x y:Nat)(hx:Fits x)(hy:Fits y):rk prog aF (.call 105 [vl b (ws x),vl c (ws y)] [])=some (.d (.l (nb (x*y)) (ws (x*y))),[]):=by
 have lx:=hx.len;have ly:=hy.len
 have h:=Ii b c (aQ x) (aQ y) (cU x) (cU y) ((aQ x).length+(aQ y).length+1) rfl (by omega) (aQ x).length 0 (List.replicate ((aQ x).length+(aQ y).length+1) 0) (by omega)
  (λ z hz=>by rw[List.mem_replicate]at hz;omega) (by simp) (λ j _ hj=>by simp at hj;simp[hj]) (by rw[gL];simp[aV])
 rw[cQ,cQ]at h;unfold SA at h;rw[<-gE,Int.natCast_zero]at h;have hw1:i64.wrap (((aQ x).length:Int)+((aQ y).length:Int))=(((aQ x).length+(aQ y).length:Nat):Int):=U5;have hw2:i64.wrap ((((aQ x).length+(aQ y).length:Nat):Int)+1)=(((aQ x).length+(aQ y).length+1:Nat):Int):=U5;rw[f29,dP,dP,hw1,hw2,aJ,aJ rfl,aJ,Int.toNat_natCast,aA];exact h
theorem Bx(n:Nat)(hn:n<=1000):∀(d i:Nat) (b:Bool),i+d=n->
  rk prog aF (.at_ 106 0 (fw 87) (sv 17 [(0,vi (n:Int)),(3,vl b (ws (10^i))),(4,vi (i:Int))]) [] [])=some (.d (.l (if d=0 then b else nb (10^n)) (ws (10^n))),[])
 |0,i,b,h=>by
  have:i=n:=by omega
  subst this;rw[En,bn,aD,if_pos rfl]
 |d+1,i,b,h=>by
  have hw:=Wv i;have hm:rk prog aF (.call 105 [vl b (ws (10^i)),vl true [D.i u32 10]] [])=some (.d (.l (nb (10^i*10)) (ws (10^i*10))),[]):=by have:=nX b true (10^i) 10 (sA (by omega)) (by have:=sA (n:=1) (by decide);rwa[Nat.pow_one]at this);rw[show ws 10=[D.i u32 10] by rw[ws,fi (by decide),show 10 / W=0 by decide,cc];rfl]at this;exact this
  rw[En,bz,eE hm,hw,aA,<-Nat.pow_succ];have:=Bx n hn d (i+1) (nb (10^(i+1))) (by omega);have e:(if d=0 then nb (10^(i+1))else nb (10^n))=nb (10^n):=by
   split
   ·rw[show i+1=n by omega]
   ·rfl
  rw[this,e,if_neg (show ¬d+1=0 by omega)]
theorem Dr:ws 1=[D.i u32 1]:=by rw[ws,fi (by decide),show 1 / W=0 by decide,cc];rfl
def tb(n:Nat):Bool:=if n=0 then true else nb (10^n)
theorem p9(n:Nat)(hn:n<=1000):rk prog aF (.call 106 [vi (n:Int)] [])=some (.d (.l (tb n) (ws (10^n))),[]):=by have:=Bx n hn n 0 true (by omega);rw[Nat.pow_zero,Dr]at this;rw[f31,bn,aA];exact this
section
variable {f : Task → Option Out}
theorem Kh{t:Task}{b c:Bool}{l:List D}{e e':V}{K:Bool->List D->Bool->Tr}(h:f t=some (.t [.d (.l b l),.d (.b c)],[])):
  aC f (.call t λ o=>aH o.snd.isEmpty (cL o.fst λ l=>aH (l.length==2) (bm (l.getD 0 e) λ d=>fT d λ x y=>bm (l.getD 1 e') λ d'=>fN d' λ z=>K x y z)))=aC f (K b l c):=cp h
end
theorem Vo{z k:Nat}(hz:z<2^k)(hk:k<32):u32.wrap (((BitVec.ofInt u32.bits (z:Int) ||| BitVec.ofInt u32.bits (u32.wrap (1*2^k))).toNat:Nat):Int)=((z+2^k:Nat):Int)/\z+2^k<4294967296:=by
 have h2:2^k<=2147483648:=Nat.le_trans (Nat.pow_le_pow_right (by decide) (show k<=31 by omega)) (by decide);have hlt:z+2^k<4294967296:=by omega
 refine⟨?_,hlt⟩;have e:(1:Int)*2^k=((2^k:Nat):Int):=by simp
 rw[e,dj (((2^k:Nat)):Int),nP (by omega)];have h3:(BitVec.ofInt u32.bits (z:Int) ||| BitVec.ofInt u32.bits ((2^k:Nat):Int)).toNat=z ||| 2^k:=by show (BitVec.ofInt 32 (z:Int) ||| BitVec.ofInt 32 ((2^k:Nat):Int)).toNat=_;rw[BitVec.toNat_or,BitVec.ofInt_natCast,BitVec.ofInt_natCast,BitVec.toNat_ofNat,BitVec.toNat_ofNat,Nat.mod_eq_of_lt (by omega),Nat.mod_eq_of_lt (by omega)]
 have h4:z ||| 2^k=z+2^k:=by
  have:=ps (a:=1) hz
  rwa[Nat.one_mul]at this
 rw[h3,h4,dj];omega
theorem RG{qs:List Int}(hu:dR qs){p:Nat}(hp:p / 32<qs.length)(hv:aV qs<2^p):
  ∃z:Nat,qs[p / 32]?=some (z:Int)/\u32.wrap (((BitVec.ofInt u32.bits (z:Int) ||| BitVec.ofInt u32.bits (u32.wrap (1*2^(p%32)))).toNat:Nat):Int)=((z+2^(p%32):Nat):Int)/\
   dR (qs.set (p / 32) ((z+2^(p%32):Nat):Int))/\aV (qs.set (p / 32) ((z+2^(p%32):Nat):Int))=aV qs+2^p:=by
 have hwd:=Dq hu hp;have hlow:aV qs / W^(p / 32)%W<2^(p%32):=by refine Nat.lt_of_le_of_lt (Nat.mod_le _ _) (Nat.div_lt_of_lt_mul ?_);rw[Dz (p / 32) (p%32),Nat.div_add_mod];exact hv
 have hval:=lZ qs (p / 32) ((aV qs / W^(p / 32)%W+2^(p%32):Nat):Int) hp;rw[hwd,Int.toNat_natCast,Int.toNat_natCast,Nat.mul_add,Dz (p / 32) (p%32),Nat.div_add_mod]at hval;have hg:qs[p / 32]?=some ((aV qs / W^(p / 32)%W:Nat):Int):=by rw[List.getElem?_eq_getElem hp,hwd]
 obtain⟨h1,h2⟩:=Vo hlow (Nat.mod_lt _ (by decide));exact⟨_,hg,h1,hu.set _ h2,by omega⟩
theorem Pf{qs:List Int}(hu:dR qs){i m:Nat}(hp:i / 32<qs.length)(hv:aV qs=2^(i+1)*m):
  ∃z:Nat,qs[i / 32]?=some (z:Int)/\u32.wrap (((BitVec.ofInt u32.bits (z:Int) ||| BitVec.ofInt u32.bits (u32.wrap (1*2^(i%32)))).toNat:Nat):Int)=((z+2^(i%32):Nat):Int)/\
   dR (qs.set (i / 32) ((z+2^(i%32):Nat):Int))/\aV (qs.set (i / 32) ((z+2^(i%32):Nat):Int))=2^i*(2*m+1):=by
 have hk:i%32<32:=Nat.mod_lt _ (by decide);have hwd:=Dq hu hp;have hz:aV qs / W^(i / 32)%W<4294967296:=Nat.mod_lt _ iw;have hlow:aV qs / W^(i / 32)%W%2^(i%32+1)=0:=E1 (q:=i / 32) (m:=m) hk (by rw[Nat.div_add_mod];exact hv);have hval:=lZ qs (i / 32) ((aV qs / W^(i / 32)%W+2^(i%32):Nat):Int) hp;rw[hwd,Int.toNat_natCast,Int.toNat_natCast,Nat.mul_add,Dz (i / 32) (i%32),Nat.div_add_mod]at hval;have hg:qs[i / 32]?=some ((aV qs / W^(i / 32)%W:Nat):Int):=by rw[List.getElem?_eq_getElem hp,hwd]
 obtain⟨h1,h2⟩:=Vn hz hk hlow;refine⟨_,hg,h1,hu.set _ h2,?_⟩;have:2^(i+1)=2*2^i:=by rw[Nat.pow_succ,Nat.mul_comm]
 have e:2^i*(2*m+1)=2^(i+1)*m+2^i:=by rw[this,Nat.mul_add,Nat.mul_one,<-Nat.mul_assoc,Nat.mul_comm (2^i) 2]
 rw[e];omega
def V2(b:Bool)(x n L i:Nat)(out:List Int):Task:=
 Task.at_ 102 0 (fw 43) (vU b (ws x) (n:Int) (V.m 0 0 L) (i:Int)) [] [Ob.cells (cellsOf out) []]
theorem Mi(b:Bool)(x n:Nat)(hx:Fits x)(hn:n<=100000)(L:Nat)(hL:L=(aQ x).length+n / 32+1):∀(d i:Nat) (out:List Int),i+d=32*(aQ x).length->dR out->out.length=L->aV out=x%2^i*2^n->
  rk prog aF (V2 b x n L i out)=some (.d (.l (nb (x*2^n)) (ws (x*2^n))),[]):=by
 have lx:=hx.len;have hw0:i64.wrap (32*((aQ x).length:Int))=((32*(aQ x).length:Nat):Int):=U5;intro d
 induction d with
 |zero=>
  intro i out hi hu hl hv;have hxl:x<2^i:=by rw[show i=32*(aQ x).length by omega,<-nu];exact gm x
  rw[Nat.mod_eq_of_lt hxl]at hv;have hc:=uu out hu (by omega);rw[hl,hv,mJ]at hc;unfold V2;rw[Eo,dP,hw0,bn,cp hc,jJ,iv,beq_self_eq_true,aN,show (([]:Fl)==[])=true from rfl,aN,kI];rfl
 |succ d ih=>
  intro i out hi hu hl hv;have hw1:=Wv i;have hw2:i64.wrap ((i:Int)+(n:Int))=((i+n:Nat):Int):=U5;have hms:x%2^(i+1)=x%2^i+2^i*(x / 2^i%2):=by rw[Nat.pow_succ,Nat.mod_mul]
  have hlow:x%2^i*2^n<2^(i+n):=by rw[Nat.pow_add];exact Nat.mul_lt_mul_of_pos_right (Nat.mod_lt _ (Nat.pow_pos (by decide))) (Nat.pow_pos (by decide))
  unfold V2 at ih⊢;rw[Eo,dP,hw0,bz,ed (wH b x i (by omega))];rcases Nat.mod_two_eq_zero_or_one (x / 2^i)with h|h
  ·rw[h,bu (by decide),aA,xE,bo,hw1,aA]
   exact ih (i+1) out (by omega) hu hl (by rw[hms,h,Nat.mul_zero,Nat.add_zero];exact hv)
  ·have hq:(i+n) / 32<out.length:=by omega
   obtain⟨z,z1,z2,z3,z4⟩:=RG hu hq (by rw[hv];exact hlow);have ht1:((i+n:Nat):Int).tdiv 32=(((i+n) / 32:Nat):Int):=fG (i+n) 32;have ht2:((i+n:Nat):Int).tmod 32=(((i+n)%32:Nat):Int):=kr (i+n) 32;have hw3:i64.wrap (((i+n) / 32:Nat):Int)=(((i+n) / 32:Nat):Int):=U5;have hmin:min ((i+n)%32) 32=(i+n)%32:=by omega
   have hb1:(0:Int)<=(((i+n) / 32:Nat):Int)/\(((i+n) / 32:Nat):Int)<(L:Int):=by omega
   have hb2:0+(i+n) / 32<(cellsOf out).length:=by rw[eP];omega
   have hg:(cellsOf out)[0+(i+n) / 32]?=some (V.d (D.i .u32 (z:Int))):=by rw[Nat.zero_add,dq,z1];rfl
   rw[h,bK (by decide),hw2,aA,show decide (((i+n:Nat):Int) ≥ 0)=true from decide_eq_true (by omega),xE,bF,hw2,ht1,hw3,aJ hb1,Int.toNat_natCast,aR hg,bM,bS,ht2,aJ,aJ hb1,Bool.and_true,aJ hb2,Int.toNat_natCast,hmin,z2,hw1,Nat.zero_add,ij,aA];exact ih (i+1) _ (by omega) z3 (by simpa using hl) (by rw[z4,hv,hms,h,Nat.mul_one,Nat.add_mul,Nat.pow_add])
theorem wJ(b:Bool)(x n:Nat)(hx:Fits x)(hn:n<=100000):rk prog aF (.call 102 [vl b (ws x),vi (n:Int)] [])=some (.d (.l (nb (x*2^n)) (ws (x*2^n))),[]):=by have lx:=hx.len;have e1:(if (0:Int)>(n:Int)then 0 else(n:Int))=(n:Int):=if_neg (by omega);have e2:(n:Int).tdiv 32=((n / 32:Nat):Int):=fG n 32;have w1:i64.wrap ((n / 32:Nat):Int)=((n / 32:Nat):Int):=U5;have w2:i64.wrap (((aQ x).length:Int)+((n / 32:Nat):Int))=(((aQ x).length+n / 32:Nat):Int):=U5;have w3:i64.wrap ((((aQ x).length+n / 32:Nat):Int)+1)=(((aQ x).length+n / 32+1:Nat):Int):=U5;have h:=Mi b x n hx hn _ rfl (32*(aQ x).length) 0 (List.replicate ((aQ x).length+n / 32+1) 0) (by omega) (λ z hz=>by rw[List.mem_replicate]at hz;omega) (by simp) (by rw[gL,Nat.pow_zero,Nat.mod_one,Nat.zero_mul]);unfold V2 at h;rw[<-gE,Int.natCast_zero]at h;rw[f40,dP,e1,e2,w1,w2,w3,aJ,aJ rfl,aJ,Int.toNat_natCast,aA];exact h
def Ru(bx by_:Bool)(x y n:Nat)(br:Bool)(r:Nat)(i:Int)(fl:List (Nat×Nat))(qs:List Int):Task:=
 Task.at_ 107 0 (fw 175) (tP bx (ws x) by_ (ws y) (V.m 0 0 n) br (ws r) i) fl [Ob.cells (cellsOf qs) []]
theorem Mb(bx by_ br:Bool)(x y n r i:Nat)(fl:List (Nat×Nat))(hfl:fl=[(8,1)]\/fl=[])(qs:List Int)(hy:Fits y)(hr:Fits r)(hr2:Fits (r+r))(hr3:Fits (r+r+x / 2^i%2))(hn:n=qs.length)(hi:i<32*n)(hn2:n<=100000)(hu:dR qs)(m:Nat)(hv:aV qs=2^(i+1)*m):
  (r+r+x / 2^i%2<y->rk prog aF (Ru bx by_ x y n br r (i:Int) fl qs)=rk prog aF (Ru bx by_ x y n (nb (r+r+x / 2^i%2)) (r+r+x / 2^i%2) ((i:Int)-1) [] qs))/\
  (y<=r+r+x / 2^i%2->∃qs',dR qs'/\qs'.length=n/\aV qs'=2^i*(2*m+1)/\rk prog aF (Ru bx by_ x y n br r (i:Int) fl qs)=rk prog aF (Ru bx by_ x y n (nb (r+r+x / 2^i%2-y)) (r+r+x / 2^i%2-y) ((i:Int)-1) [] qs')):=by
 have a1:=nV br br r r hr hr;have a2:=wH bx x i (by omega);have a3:=yA (x / 2^i%2) (Nat.lt_trans (Nat.mod_lt _ (by decide)) (by decide));have a4:=nV (nb (r+r)) (nb (x / 2^i%2)) (r+r) (x / 2^i%2) hr2 (Cq.le (by omega));have a5:=RB (nb (r+r+x / 2^i%2)) by_ (r+r+x / 2^i%2) y hr3 hy;have w1:i64.wrap ((i:Int)-1)=(i:Int)-1:=U5;constructor
 ·intro h;rw[if_pos h]at a5;unfold Ru;rcases hfl with rfl|rfl
  ·rw[ua,bz,eE a1,ed a2,eE a3,eE a4,Kh a5,bo,aA,nK,w1,aA]
  ·rw[oW,bz,eE a1,ed a2,eE a3,eE a4,Kh a5,bo,aA,nK,w1,aA]
 ·intro h;rw[UM]at a5;have hq:i / 32<qs.length:=by omega
  obtain⟨z,z1,z2,z3,z4⟩:=Pf hu hq hv;have ht1:(i:Int).tdiv 32=((i / 32:Nat):Int):=fG i 32;have ht2:(i:Int).tmod 32=((i%32:Nat):Int):=kr i 32;have hw:i64.wrap ((i / 32:Nat):Int)=((i / 32:Nat):Int):=U5;have hmin:min (i%32) 32=i%32:=by omega
  have hb1:(0:Int)<=((i / 32:Nat):Int)/\((i / 32:Nat):Int)<(n:Int):=by omega
  have hb2:0+i / 32<(cellsOf qs).length:=by rw[eP];omega
  have hg:(cellsOf qs)[0+i / 32]?=some (V.d (D.i .u32 (z:Int))):=by rw[Nat.zero_add,dq,z1];rfl
  refine⟨_,z3,by simp[hn],z4,?_⟩;unfold Ru;rcases hfl with rfl|rfl
  ·rw[ua,bz,eE a1,ed a2,eE a3,eE a4,Kh a5,bF,ht1,hw,aJ hb1,Int.toNat_natCast,aR hg,bM,bS,ht2,aJ,aJ hb1,Bool.and_true,aJ hb2,Int.toNat_natCast,hmin,z2,Nat.zero_add,ij,aA,nK,w1,aA]
  ·rw[oW,bz,eE a1,ed a2,eE a3,eE a4,Kh a5,bF,ht1,hw,aJ hb1,Int.toNat_natCast,aR hg,bM,bS,ht2,aJ,aJ hb1,Bool.and_true,aJ hb2,Int.toNat_natCast,hmin,z2,Nat.zero_add,ij,aA,nK,w1,aA]
theorem Ma(bx by_:Bool)(x y:Nat)(hx:Fits x)(hy:Fits (y*2))(hy0:0<y)(n:Nat)(hnl:n=(aQ x).length+1):∀(i:Nat) (fl:List (Nat×Nat)) (r:Nat) (qs:List Int),(fl=[(8,1)]\/fl=[])->i<=32*(aQ x).length->r=x / 2^i%y->aV qs=2^i*(x / 2^i / y)->dR qs->qs.length=n->
  rk prog aF (Ru bx by_ x y n (nb r) r ((i:Int)-1) fl qs)=some (.t [.d (.l (nb (x / y)) (ws (x / y))),.d (.l (nb (x%y)) (ws (x%y))),.d (.b true)],[]):=by
 have lx:=hx.len;intro i
 induction i with
 |zero=>
  intro fl r qs hfl hi hr hv hu hl;rw[Nat.pow_zero,Nat.div_one]at hr;rw[Nat.pow_zero,Nat.div_one,Nat.one_mul]at hv;have hc:=uu qs hu (by omega);rw[hl,hv,mJ]at hc;unfold Ru;rw[hr];rcases hfl with rfl|rfl
  ·rw[ua,bn,cp hc,jJ,iv,beq_self_eq_true,aN,show (([]:Fl)==[])=true from rfl,aN,kI];rfl
  ·rw[oW,bn,cp hc,jJ,iv,beq_self_eq_true,aN,show (([]:Fl)==[])=true from rfl,aN,kI];rfl
 |succ i ih=>
  intro fl r qs hfl hi hr hv hu hl;have hry:r<y:=by rw[hr];exact Nat.mod_lt _ hy0
  have e:(((i+1:Nat):Int)-1)=(i:Int):=by omega
  have hb:=Nat.mod_two_eq_zero_or_one (x / 2^i);have fr:Fits r:=hy.le (by omega);have fr2:Fits (r+r):=hy.le (by omega);have fr1:Fits (r+r+x / 2^i%2):=hy.le (by omega);have hX:x / 2^i=2*(x / 2^(i+1))+x / 2^i%2:=by rw[Nat.pow_succ,<-Nat.div_div_eq_div_mul];have:=Nat.div_add_mod (x / 2^i) 2;omega
  have hdm:=Nat.div_add_mod (x / 2^(i+1)) y;rw[<-hr]at hdm;have hXY:x / 2^i=y*(2*(x / 2^(i+1) / y))+(r+r+x / 2^i%2):=by
   have:y*(2*(x / 2^(i+1) / y))=2*(y*(x / 2^(i+1) / y)):=by rw[Nat.mul_left_comm]
   omega
  rw[e];have hm:=Mb bx by_ (nb r) x y n r i fl hfl qs (hy.le (by omega)) fr fr2 fr1 hl.symm (by omega) (by omega) hu (x / 2^(i+1) / y) hv;by_cases hlt:r+r+x / 2^i%2<y
  ·rw[hm.1 hlt];have hq:x / 2^i / y=2*(x / 2^(i+1) / y):=by
    conv=>lhs;rw[hXY]
    rw[Nat.mul_add_div hy0,Nat.div_eq_of_lt hlt,Nat.add_zero]
   have hrr:x / 2^i%y=r+r+x / 2^i%2:=by
    conv=>lhs;rw[hXY]
    rw[Nat.mul_add_mod,Nat.mod_eq_of_lt hlt]
   refine ih [] _ qs (Or.inr rfl) (by omega) hrr.symm ?_ hu hl;rw[hv,hq,Nat.pow_succ,Nat.mul_assoc]
  ·obtain⟨qs',u1,u2,u3,u4⟩:=hm.2 (by omega)
   rw[u4];have hq:x / 2^i / y=2*(x / 2^(i+1) / y)+1:=by
    conv=>lhs;rw[hXY]
    have hd1:(r+r+x / 2^i%2) / y=1:=Nat.div_eq_of_lt_le (by omega) (by omega);rw[Nat.mul_add_div hy0,hd1]
   have hrr:x / 2^i%y=r+r+x / 2^i%2-y:=by
    conv=>lhs;rw[hXY]
    rw[Nat.mul_add_mod,Nat.mod_eq_sub_mod (by omega),Nat.mod_eq_of_lt (by omega)]
   refine ih [] _ qs' (Or.inr rfl) (by omega) hrr.symm ?_ u1 u2;rw[u3,hq]
theorem J5(b c:Bool)(x y:Nat)(hx:Fits x)(hy:Fits (y*2))(hy0:0<y):rk prog aF (.call 107 [vl b (ws x),vl c (ws y)] [])=some (.t [.d (.l (nb (x / y)) (ws (x / y))),.d (.l (nb (x%y)) (ws (x%y))),.d (.b true)],[]):=by
 have lx:=hx.len;have hyl:(aQ y).length≠0:=λ e=>by
  have:=(fJ y).1 (List.length_eq_zero_iff.1 e);omega
 have w1:i64.wrap (((aQ x).length:Int)+1)=(((aQ x).length+1:Nat):Int):=U5;have w2:i64.wrap (32*((aQ x).length:Int))=((32*(aQ x).length:Nat):Int):=U5;have w3:i64.wrap (((32*(aQ x).length:Nat):Int)-1)=((32*(aQ x).length:Nat):Int)-1:=U5;have hx0:x / 2^(32*(aQ x).length)=0:=Nat.div_eq_of_lt (by rw[<-nu];exact gm x);have h:=Ma b c x y hx hy hy0 _ rfl (32*(aQ x).length) [(8,1)] 0 (List.replicate ((aQ x).length+1) 0) (Or.inl rfl) (Nat.le_refl _) (by rw[hx0,Nat.zero_mod]) (by rw[hx0,Nat.zero_div,Nat.mul_zero,gL]) (λ z hz=>by rw[List.mem_replicate]at hz;omega) (by simp);unfold Ru at h;rw[<-gE,tG]at h;rw[f43,eE (FU c y (hy.le (by omega))),dP,dP,bu,w1,w2,w3,aJ,aJ rfl,aJ,Int.toNat_natCast,aA];exact h
set_option exponentiation.threshold 5000000
def U:Nat:=2^1074
def E:Nat:=18014398509481983
theorem Qi:E+1=2*2^53:=by decide
theorem Sd:0<U:=Nat.pow_pos (by decide)
theorem XG(a b c d:Nat):a*(b*c)*d=a*(d*b)*c:=by ac_rfl
theorem XU(a b c:Nat):a*b*c*2=a*(b*2*c):=by ac_rfl
theorem Fx{k:Nat}(h:0<k):2^k=2^(k-1)*2:=by rw[<-Nat.pow_succ,Nat.succ_eq_add_one,Nat.sub_add_cancel h]
theorem Qe(a b c:Nat):a*b*c=a*c*b:=by ac_rfl
theorem XH(x a b:Nat):2*x*(a*b)=2*(x*a)*b:=by ac_rfl
theorem B4{k:Nat}(h:k<=1074):U=2^(1074-k)*2^k:=by rw[<-Nat.pow_add,Nat.sub_add_cancel h];rfl
theorem GM{k:Nat}(h:1074<=k):2^k=2^(k-1074)*U:=by unfold U;rw[<-Nat.pow_add,Nat.sub_add_cancel h]
def gr(v:Nat):Nat:=if v<2^52 then v else(v%2^52+2^52)*2^(v / 2^52-1)
theorem vA(k q:Nat)(hq:q<=2^53)(h:k=0\/2^52<=q):gr (k*2^52+q)=q*2^k:=by
 unfold gr;by_cases h0:q<2^52
 ·have hk:k=0:=by omega
  subst hk;rw[if_pos (by omega)];omega
 ·rw[UM];by_cases h1:q<2^53
  ·have e1:(k*2^52+q)%2^52+2^52=q:=by omega
   have e2:(k*2^52+q) / 2^52-1=k:=by omega
   rw[e1,e2]
  ·have e1:(k*2^52+q)%2^52+2^52=2^52:=by omega
   have e2:(k*2^52+q) / 2^52-1=k+1:=by omega
   have e3:q=2^52*2:=by omega
   rw[e1,e2,e3,Nat.pow_succ 2 k,Nat.mul_comm (2^k) 2,Nat.mul_assoc]
theorem xS(v:Nat):∃k q,q<2^53/\(k=0\/2^52<=q)/\v=k*2^52+q:=by
 by_cases h:v<2^52
 ·exact⟨0,v,by omega,Or.inl rfl,by omega⟩
 ·exact⟨v / 2^52-1,v%2^52+2^52,by omega,Or.inr (by omega),by omega⟩
theorem Cx(k q:Nat)(hq:q<2^53)(h:k=0\/2^52<=q):gr (k*2^52+q+1)=(q+1)*2^k:=by rw[Nat.add_assoc];exact vA k (q+1) (by omega) (by omega)
theorem AO(v:Nat):gr v<gr (v+1):=by obtain⟨k,q,h1,h2,rfl⟩:=xS v;rw[vA k q (by omega) h2,Cx k q h1 h2];exact Nat.mul_lt_mul_of_pos_right (by omega) (Nat.pow_pos (by decide))
theorem Cw{v w:Nat}(h:v<=w):gr v<=gr w:=by
 induction h with
 |refl=>exact Nat.le_refl _
 |step _ ih=>exact Nat.le_trans ih (Nat.le_of_lt (AO _))
theorem EN{v w:Nat}(h:v<w):gr v<gr w:=Nat.lt_of_lt_of_le (AO v) (Cw h)
def iC(v:Nat):Nat:=gr v+gr (v+1)
theorem Oq{v w:Nat}(h:v<=w):iC v<=iC w:=by unfold iC;have:=Cw h;have:=Cw (show v+1<=w+1 by omega);omega
theorem LO{v w:Nat}(h:v<w):iC v<iC w:=by unfold iC;have:=EN h;have:=EN (show v+1<w+1 by omega);omega
def oz(x y v:Nat):Prop:=
 (2*x*U<iC v*y\/(2*x*U=iC v*y/\v%2=0))/\(v=0\/iC (v-1)*y<2*x*U\/(iC (v-1)*y=2*x*U/\v%2=0))
theorem A8{x y v x' y' v':Nat}(h:oz x y v)(h':oz x' y' v')(hy:0<y)(hy':0<y')(hle:x*y'<=x'*y):v<=v':=by
 rcases Nat.lt_or_ge v' v with hlt|hge
 ·exfalso;have hm:iC v'<=iC (v-1):=Oq (by omega);obtain⟨-,hl⟩:=h;obtain⟨hu,-⟩:=h';have e1:2*x*U*y'<=2*x'*U*y:=by
   have:=Nat.mul_le_mul_left (2*U) hle;have a1:2*x*U*y'=2*U*(x*y'):=by ac_rfl
   have a2:2*x'*U*y=2*U*(x'*y):=by ac_rfl
   omega
  have e2:iC v'*y'*y<=iC (v-1)*y*y':=by
   have:=Nat.mul_le_mul_right (y'*y) hm;have a1:iC v'*y'*y=iC v'*(y'*y):=by ac_rfl
   have a2:iC (v-1)*y*y'=iC (v-1)*(y'*y):=by ac_rfl
   omega
  have l0:iC (v-1)*y<=2*x*U:=by omega
  have u0:2*x'*U<=iC v'*y':=by omega
  have l1:=Nat.mul_le_mul_right y' l0;have u1:=Nat.mul_le_mul_right y u0;have k1:iC (v-1)*y=2*x*U:=Nat.eq_of_mul_eq_mul_right hy' (by omega);have k2:2*x'*U=iC v'*y':=Nat.eq_of_mul_eq_mul_right hy (by omega);have k3:iC v'=iC (v-1):=by
   have a1:iC v'*y'*y=iC v'*(y'*y):=by ac_rfl
   have a2:iC (v-1)*y*y'=iC (v-1)*(y'*y):=by ac_rfl
   exact Nat.eq_of_mul_eq_mul_right (Nat.mul_pos hy' hy) (by omega)
  have k4:v'=v-1:=by
   rcases Nat.lt_or_ge v' (v-1)with h3|h3
   ·have:=LO h3;omega
   ·omega
  omega
 ·exact hge
theorem wA{x y v x' y' v':Nat}(h:oz x y v)(h':oz x' y' v')(hy:0<y)(hy':0<y')(he:x*y'=x'*y):v=v':=
 Nat.le_antisymm (A8 h h' hy hy' (Nat.le_of_eq he)) (A8 h' h hy' hy (Nat.le_of_eq he.symm))
theorem sL(x y:Nat)(hy:0<y):2*x<(2*dE x y+1)*y\/(2*x=(2*dE x y+1)*y/\dE x y%2=0):=by
 have hd:=Nat.div_add_mod x y;have hr:x%y<y:=Nat.mod_lt _ hy;unfold dE;generalize x / y=q at *;generalize x%y=r at *;have e1:(2*(q+1)+1)*y=2*(y*q)+3*y:=by rw[Nat.add_mul,Nat.mul_assoc,Nat.add_mul,Nat.mul_comm q y];omega
 have e2:(2*q+1)*y=2*(y*q)+y:=by rw[Nat.add_mul,Nat.mul_assoc,Nat.mul_comm q y];omega
 split
 ·rw[e1];omega
 ·rw[e2];omega
theorem p7(x y:Nat)(hy:0<y):2*dE x y*y<2*x+y\/(2*dE x y*y=2*x+y/\dE x y%2=0):=by
 have hd:=Nat.div_add_mod x y;have hr:x%y<y:=Nat.mod_lt _ hy;unfold dE;generalize x / y=q at *;generalize x%y=r at *;have e1:2*(q+1)*y=2*(y*q)+2*y:=by rw[Nat.mul_assoc,Nat.add_mul,Nat.mul_comm q y];omega
 have e2:2*q*y=2*(y*q):=by rw[Nat.mul_assoc,Nat.mul_comm q y]
 split
 ·rw[e1];omega
 ·rw[e2];omega
theorem A7(x y k:Nat)(hy:0<y):2*x*U<(2*bW x y ((k:Int)-1074)+1)*2^k*y\/(2*x*U=(2*bW x y ((k:Int)-1074)+1)*2^k*y/\bW x y ((k:Int)-1074)%2=0):=by
 unfold bW;by_cases h:(k:Int)-1074<0
 ·rw[if_pos h,show (-((k:Int)-1074)).toNat=1074-k by omega]
  have h1:=sL (x*2^(1074-k)) y hy;have e:=B4 (k:=k) (by omega);generalize dE (x*2^(1074-k)) y=q at *;have e1:2*x*U=2*(x*2^(1074-k))*2^k:=by rw[e];exact XH _ _ _
  have e2:(2*q+1)*2^k*y=(2*q+1)*y*2^k:=Qe _ _ _;rw[e1,e2];exact h1.imp (λ h=>Nat.mul_lt_mul_of_pos_right h (Nat.pow_pos (by decide))) (λ h=>⟨by rw[h.1],h.2⟩)
 ·rw[if_neg h,show ((k:Int)-1074).toNat=k-1074 by omega]
  have h1:=sL x (y*2^(k-1074)) (Nat.mul_pos hy (Nat.pow_pos (by decide)));have e:=GM (k:=k) (by omega);generalize dE x (y*2^(k-1074))=q at *;have e2:(2*q+1)*2^k*y=(2*q+1)*(y*2^(k-1074))*U:=by rw[e];exact XG _ _ _ _
  rw[e2];exact h1.imp (λ h=>Nat.mul_lt_mul_of_pos_right h Sd) (λ h=>⟨by rw[h.1],h.2⟩)
theorem rE(x y k:Nat)(hy:0<y):2*bW x y ((k:Int)-1074)*2^k*y<2*x*U+2^k*y\/(2*bW x y ((k:Int)-1074)*2^k*y=2*x*U+2^k*y/\bW x y ((k:Int)-1074)%2=0):=by
 unfold bW;by_cases h:(k:Int)-1074<0
 ·rw[if_pos h,show (-((k:Int)-1074)).toNat=1074-k by omega]
  have h1:=p7 (x*2^(1074-k)) y hy;have e:=B4 (k:=k) (by omega);generalize dE (x*2^(1074-k)) y=q at *;have e1:2*x*U+2^k*y=(2*(x*2^(1074-k))+y)*2^k:=by rw[e,Nat.add_mul,XH,Nat.mul_comm y]
  have e2:2*q*2^k*y=2*q*y*2^k:=Qe _ _ _;rw[e1,e2];exact h1.imp (λ h=>Nat.mul_lt_mul_of_pos_right h (Nat.pow_pos (by decide))) (λ h=>⟨by rw[h.1],h.2⟩)
 ·rw[if_neg h,show ((k:Int)-1074).toNat=k-1074 by omega]
  have h1:=p7 x (y*2^(k-1074)) (Nat.mul_pos hy (Nat.pow_pos (by decide)));have e:=GM (k:=k) (by omega);generalize dE x (y*2^(k-1074))=q at *;have e1:2*x*U+2^k*y=(2*x+y*2^(k-1074))*U:=by rw[e,Nat.add_mul,Qe _ U y,Nat.mul_comm y]
  have e2:2*q*2^k*y=2*q*(y*2^(k-1074))*U:=by rw[e];exact XG _ _ _ _
  rw[e1,e2];exact h1.imp (λ h=>Nat.mul_lt_mul_of_pos_right h Sd) (λ h=>⟨by rw[h.1],h.2⟩)
theorem yd(k q:Nat)(hq:q<2^53)(h:k=0\/2^52<=q):iC (k*2^52+q)=(2*q+1)*2^k:=by rw[iC,vA k q (by omega) h,Cx k q hq h,<-Nat.add_mul,show q+(q+1)=2*q+1 by omega]
theorem LP(k q:Nat)(hq:q<2^53)(h0:0<q)(h:k=0\/2^52<q):iC (k*2^52+q-1)=(2*q-1)*2^k:=by
 have e:k*2^52+q-1=k*2^52+(q-1):=by omega
 rw[e,yd k (q-1) (by omega) (by omega),show 2*(q-1)+1=2*q-1 by omega]
theorem Oo(k:Nat)(hk:0<k):iC (k*2^52+2^52-1)=E*2^(k-1):=by
 have hE:=Qi;obtain⟨q,hq⟩:∃q,q+1=2^53:=⟨2^53-1,by omega⟩
 have e:k*2^52+2^52-1=(k-1)*2^52+q:=by omega
 rw[e,yd (k-1) q (by omega) (by omega),show 2*q+1=E by omega]
theorem Fc(q X A y k:Nat)(hp:0<A*y)(hu:X<(2*q+1)*A*y\/(X=(2*q+1)*A*y/\q%2=0))(B:Nat)(hB:0<k->A=B*2)
  (hlow:k=0\/E*B*y<=X):k=0\/4503599627370496<=q:=by
 have hE:=Qi;rcases hlow with h|h
 ·exact Or.inl h
 ·rcases Nat.eq_zero_or_pos k with h0|h0
  ·exact Or.inl h0
  ·right;have e:E*B*y*2=E*(A*y):=by rw[hB h0];exact XU _ _ _
   have h1:X<=(2*q+1)*(A*y):=by rw[<-Nat.mul_assoc];omega
   have h2:E*(A*y)<=(2*(2*q+1))*(A*y):=by rw[Nat.mul_assoc 2 (2*q+1)];omega
   have h3:=Nat.le_of_mul_le_mul_right h2 hp;omega
theorem vF(q X A y:Nat)(hq:0<q)(hl:2*q*A*y<X+A*y\/(2*q*A*y=X+A*y/\q%2=0)):(2*q-1)*A*y<X\/((2*q-1)*A*y=X/\q%2=0):=by
 have e2:(2*q-1)*A*y+A*y=2*q*A*y:=by rw[Nat.mul_assoc,Nat.mul_assoc (2*q),<-Nat.succ_mul,show (2*q-1).succ=2*q by omega]
 rcases hl with h|h
 ·left;omega
 ·right;exact⟨by omega,h.2⟩
theorem yi(x y k:Nat)(hy:0<y)(hq:bW x y ((k:Int)-1074)<2^53)(hlow:k=0\/E*2^(k-1)*y<=2*x*U):
  oz x y (k*2^52+bW x y ((k:Int)-1074))/\(k=0\/2^52<=bW x y ((k:Int)-1074)):=by
 have hu:=A7 x y k hy;have hl:=rE x y k hy;generalize bW x y ((k:Int)-1074)=q at *;have hp:0<2^k*y:=Nat.mul_pos (Nat.pow_pos (by decide)) hy;have h52:k=0\/2^52<=q:=Fc q _ _ y k hp hu (2^(k-1)) Fx hlow;refine⟨⟨?_,?_⟩,h52⟩
 ·rw[yd k q hq h52];refine hu.imp id λ h=>⟨h.1,?_⟩
  omega
 ·by_cases h0:k*2^52+q=0
  ·exact Or.inl h0
  ·right;by_cases hb:k=0\/2^52<q
   ·rw[LP k q hq (by omega) hb]
    exact(vF q _ _ y (by omega) hl).imp id λ h=>⟨h.1,by omega⟩
   ·have hk:0<k:=by omega
    have hq2:q=2^52:=by omega
    have hev:(k*2^52+q)%2=0:=by omega
    rw[hq2,Oo k hk];rw[hq2]at hev;rcases hlow with h|h
    ·omega
    ·exact(Nat.lt_or_eq_of_le h).imp id λ h1=>⟨h1,hev⟩
theorem rz(x y k:Nat)(hy:0<y)(hq:2^53<=bW x y ((k:Int)-1074)):E*2^k*y<=2*x*U:=by
 have hl:=rE x y k hy;have hE:=Qi;generalize bW x y ((k:Int)-1074)=q at *;have h1:E*2^k*y+2^k*y=(E+1)*2^k*y:=by rw[Nat.mul_assoc,Nat.mul_assoc (E+1),Nat.succ_mul]
 have h2:(E+1)*2^k*y<=2*q*2^k*y:=Nat.mul_le_mul_right _ (Nat.mul_le_mul_right _ (by omega));omega
theorem sH(x y k:Nat)(hx:x≠0)(hk:0<k)(h:(k:Int)-1074=(bE x:Int)-bE y-53):E*2^(k-1)*y<=2*x*U:=by
 have hx1:=pS x hx;have hy1:=nO y;have bx:=kS hx;have hE:=Qi;have h1:2^54*2^(k-1)*2^bE y=2*2^(bE x-1)*U:=by unfold U;rw[<-Nat.pow_add,<-Nat.pow_add,Nat.mul_comm 2 (2^(bE x-1)),<-Nat.pow_succ,<-Nat.pow_add];congr 1;omega
 have h2:E*2^(k-1)*y<=2^54*2^(k-1)*2^bE y:=Nat.mul_le_mul (Nat.mul_le_mul_right _ (by omega)) (Nat.le_of_lt hy1);have h3:2*2^(bE x-1)*U<=2*x*U:=Nat.mul_le_mul_right _ (Nat.mul_le_mul_left _ hx1);omega
def xK(v:Nat):Nat×Bool:=if v<2047*2^52 then(v,true) else(0,false)
theorem rq(k q:Nat)(hq:q<2^53)(h:k=0\/2^52<=q):eW q ((k:Int)-1074)=xK (k*2^52+q):=by
 unfold eW xK;by_cases h1:q<2^52
 ·rw[if_pos h1,if_pos (by omega)]
  have:k=0:=by omega
  subst this;simp
 ·rw[if_neg h1];by_cases h2:971<(k:Int)-1074
  ·rw[if_pos h2,UM]
  ·rw[if_neg h2,if_pos (by omega)]
   rw[show ((k:Int)-1074+1075).toNat=k+1 by omega,show (k+1)*2^52+(q-2^52)=k*2^52+q by omega]
theorem nz(x y:Nat)(hy:0<y):∃v,oz x y v/\fe x y=xK v:=by
 by_cases h0:x=0
 ·refine⟨0,⟨Or.inl ?_,Or.inl rfl⟩,?_⟩
  ·subst h0;rw[Nat.mul_zero,Nat.zero_mul];exact Nat.mul_pos (by decide) hy
  ·rw[fe,if_pos h0];decide
 ·have hf:-1074<=dB x y:=Int.le_max_right ..;have key:∀k:Nat,bW x y ((k:Int)-1074)<2^53->(k=0\/E*2^(k-1)*y<=2*x*U)->∃v,oz x y v/\eW (bW x y ((k:Int)-1074)) ((k:Int)-1074)=xK v:=by intro k hq hl;obtain⟨h1,h2⟩:=yi x y k hy hq hl;exact⟨_,h1,rq k _ hq h2⟩
  obtain⟨k,hk⟩:∃k:Nat,dB x y=(k:Int)-1074:=⟨(dB x y+1074).toNat,by omega⟩
  have e1:(k:Int)-1074+1=((k+1:Nat):Int)-1074:=by omega
  have e2:(k:Int)-1074+2=((k+2:Nat):Int)-1074:=by omega
  have h3:=Ko x y h0 hy;rw[fe,if_neg h0];rw[hk]at h3⊢;rw[e2]at h3⊢;rw[e1];split
  ·rename_i hb;refine key k ((cW _ _).1 hb) ?_;rcases Nat.eq_zero_or_pos k with h|h
   ·exact Or.inl h
   ·exact Or.inr (sH x y k h0 h (by unfold dB at hk;omega))
  ·rename_i hb;split
   ·rename_i hb1;refine key (k+1) ((cW _ _).1 hb1) (Or.inr ?_);exact rz x y k hy (by have:=mt (cW _ _).2 hb;omega)
   ·rename_i hb1;refine key (k+2) (by omega) (Or.inr ?_);exact rz x y (k+1) hy (by have:=mt (cW _ _).2 hb1;omega)
section
variable {f : Task → Option Out}
theorem Po{t:Task}{b c z:Bool}{l m:List D}{e e' e'':V}{K:Bool->List D->Bool->List D->Bool->Tr}(h:f t=some (.t [.d (.l b l),.d (.l c m),.d (.b z)],[])):
  aC f (.call t λ o=>aH o.snd.isEmpty (cL o.fst λ l=>aH (l.length==3) (bm (l.getD 0 e) λ d=>fT d λ x y=>bm (l.getD 1 e') λ d'=>fT d' λ u v=>bm (l.getD 2 e'') λ d''=>fN d'' λ w=>K x y u v w)))=aC f (K b l c m z):=cp h
end
theorem JU(q:Nat)(e:Int)(hq:q<2^53)(he1:-1074<=e)(he2:e<=1000000):
  rk prog aF (.at_ 215 0 (fw 7) (HR (q:Int) e) [] [])=some (.t [.d (.i .u64 ((eW q e).1:Nat)),.d (.b (eW q e).2)],[]):=by
 rw[QN];unfold eW;by_cases h:q<2^52
 ·rw[bz,aD,if_pos h]
 ·rw[bn,if_neg h];by_cases h2:e>971
  ·rw[bz h2,aD,if_pos h2];rfl
  ·have hw1:i64.wrap (e+1075)=((e+1075).toNat:Int):=U5;have hE:(e+1075).toNat<=2046:=by omega
   rw[bn h2,if_neg (show ¬971<e from h2),hw1,aD];generalize (e+1075).toNat=F at hE⊢;have hw2:u64.wrap (F:Int)=(F:Int):=by rw[aT];omega
   have hw3:u64.wrap ((F:Int)*4503599627370496)=((F*2^52:Nat):Int):=by rw[aT];omega
   have hw4:u64.wrap ((q:Int)-4503599627370496)=((q-2^52:Nat):Int):=by rw[aT];omega
   have hor:(BitVec.ofInt u64.bits ((F*2^52:Nat):Int) ||| BitVec.ofInt u64.bits ((q-2^52:Nat):Int)).toNat=F*2^52+(q-2^52):=by have:=k6 (a:=F*2^52) (b:=q-2^52) (by omega) (by omega);rw[OL (by omega)]at this;exact this
   have hw5:u64.wrap ((F*2^52+(q-2^52):Nat):Int)=((F*2^52+(q-2^52):Nat):Int):=by rw[aT];omega
   rw[hw2,hw3,hw4,hor,hw5]
theorem OM(q k:Nat)(hq:q<=2^53)(hk:k<=900000)(h:k=0\/2^52<=q):
  rk prog aF (.call 215 [vu (q:Int),vi ((k:Int)-1074)] [])=some (.t [.d (.i .u64 ((xK (k*2^52+q)).1:Nat)),.d (.b (xK (k*2^52+q)).2)],[]):=by
 rw[f60];by_cases hq1:q=2^53
 ·have e1:(q:Int).tdiv 2=((q / 2:Nat):Int):=fG q 2;have e2:u64.wrap ((q / 2:Nat):Int)=((2^52:Nat):Int):=by rw[aT];omega
  have e3:i64.wrap ((k:Int)-1074+1)=((k+1:Nat):Int)-1074:=U5;have:=JU (2^52) (((k+1:Nat):Int)-1074) (by decide) (by omega) (by omega);rw[rq (k+1) (2^52) (by decide) (Or.inr (Nat.le_refl _)),show (k+1)*2^52+2^52=k*2^52+q by omega]at this;rw[bK,e1,e2,e3,aA];exact this
 ·have:=JU q ((k:Int)-1074) (by omega) (by omega) (by omega)
  rw[rq k q (by omega) h]at this;rw[bu,aA];exact this
theorem Fb(x y k:Nat)(hy:0<y)(hq:bW x y ((k:Int)-1074)<=2^53)(hlow:k=0\/E*2^(k-1)*y<=2*x*U):
  oz x y (k*2^52+bW x y ((k:Int)-1074))/\(k=0\/2^52<=bW x y ((k:Int)-1074)):=by
 rcases Nat.lt_or_ge (bW x y ((k:Int)-1074)) (2^53)with h|h
 ·exact yi x y k hy h hlow
 ·have hu:=A7 x y k hy;have hl:=rE x y k hy;generalize bW x y ((k:Int)-1074)=q at *;have hqe:q=2^53:=by omega
  refine⟨⟨Or.inl ?_,Or.inr ?_⟩,Or.inr (by omega)⟩
  ·have hm:(2*q+1)*2^k<iC (k*2^52+q):=by
    have e:k*2^52+q=(k+1)*2^52+2^52:=by omega
    rw[e,yd (k+1) (2^52) (by decide) (Or.inr (Nat.le_refl _)),Nat.pow_succ 2 k,Nat.mul_comm (2^k) 2,<-Nat.mul_assoc];exact Nat.mul_lt_mul_of_pos_right (by omega) (Nat.pow_pos (by decide))
   have:=Nat.mul_lt_mul_of_pos_right hm hy;omega
  ·have hm:iC (k*2^52+q-1)=(2*q-1)*2^k:=by
    have e:k*2^52+q-1=k*2^52+(q-1):=by omega
    rw[e,yd k (q-1) (by omega) (Or.inr (by omega)),show 2*(q-1)+1=2*q-1 by omega]
   rw[hm];exact(vF q _ _ y (by omega) hl).imp id λ h=>⟨h.1,by omega⟩
theorem Ox{x y v:Nat}(hy:0<y)(h:oz x y v):fe x y=xK v:=by obtain⟨w,nw,hw⟩:=nz x y hy;rw[hw,wA nw h hy hy rfl]
theorem Ij(k A B:Nat)(q:Nat)(hqn:dE A B=q)(hq:q<=2^53)(hk:k<=900000)(h:k=0\/2^52<=q)(hA:Fits (A / B))(bb:Bool)(hbb:bb=true↔(B<2*(A%B)\/(2*(A%B)=B/\A / B%2=1))):
  rk prog aF (.at_ 189 0 (fw 7111) (wN ((k:Int)-1074) (nb (A / B)) (ws (A / B)) bb) [] [])=
   some (.t [.d (.i .u64 ((xK (k*2^52+q)).1:Nat)),.d (.b (xK (k*2^52+q)).2)],[]):=by
 have o1:rk prog aF (.call 101 [vu 1] [])=_:=yA 1 (by decide);have hp:=OM q k hq hk h;have hm:q%18446744073709551616=q:=Nat.mod_eq_of_lt (by omega);rw[Hl];unfold dE at hqn
 cases bb with
 |true=>
  rw[if_pos (hbb.1 rfl)]at hqn;have ha:=nV (nb (A / B)) (nb 1) (A / B) 1 hA Cq;rw[hqn]at ha;have hl:=s6 (nb q) q;rw[hm]at hl;rw[bF,eE o1,eE ha,ed hl,BH hp,aD]
 |false=>
  rw[if_neg (λ h=>absurd (hbb.2 h) (by decide))]at hqn;have hl:=s6 (nb q) q;rw[hm]at hl;rw[hqn,bo,ed hl,BH hp,aD]
theorem pz(b c:Bool)(x y:Nat)(hx:qL x)(hy:qL y)(hy0:0<y)(k:Nat)(hk:k<=10000)(hlow:k=0\/E*2^(k-1)*y<=2*x*U):
  (rk prog aF (.at_ 189 0 (fw 23) (uG b (ws x) c (ws y) ((k:Int)-1074)) [] [])=some (.t [.d (.i .u64 ((fe x y).1:Nat)),.d (.b (fe x y).2)],[])) ∨
  (2^53<=bW x y ((k:Int)-1074)/\E*2^k*y<=2*x*U/\rk prog aF (.at_ 189 0 (fw 23) (uG b (ws x) c (ws y) ((k:Int)-1074)) [] [])=
   rk prog aF (.at_ 189 0 (fw 23) (uG b (ws x) c (ws y) (((k+1:Nat):Int)-1074)) [] [])):=by
 have hwn:i64.wrap (0-((k:Int)-1074))=1074-(k:Int):=U5;have ea:(if (0:Int)>1074-(k:Int)then 0 else 1074-(k:Int))=((1074-k:Nat):Int):=by split<;>omega
 have eb:(if (0:Int)>(k:Int)-1074 then 0 else(k:Int)-1074)=((k-1074:Nat):Int):=by split<;>omega
 obtain⟨fx,-,-⟩:=hx.mul_fits (k:=1074-k) (by omega);obtain⟨fy,-,fy2⟩:=hy.mul_fits (k:=k-1074) (by omega);have s1:=wJ b x (1074-k) hx.fits (by omega);have s2:=wJ c y (k-1074) hy.fits (by omega);have hB0:0<y*2^(k-1074):=Nat.mul_pos hy0 (Nat.pow_pos (by decide));have hnear:bW x y ((k:Int)-1074)=dE (x*2^(1074-k)) (y*2^(k-1074)):=by
  unfold bW;split
  ·rw[show (-((k:Int)-1074)).toNat=1074-k by omega,show k-1074=0 by omega,Nat.pow_zero,Nat.mul_one]
  ·rw[show ((k:Int)-1074).toNat=k-1074 by omega,show 1074-k=0 by omega,Nat.pow_zero,Nat.mul_one]
 have hw6:i64.wrap ((k:Int)-1074+1)=((k+1:Nat):Int)-1074:=U5;generalize x*2^(1074-k)=A at *;generalize y*2^(k-1074)=B at *;have hd:=J5 (nb A) (nb B) A B fx fy2 hB0;have hdl:A / B<=A:=Nat.div_le_self _ _;have hrl:A%B<B:=Nat.mod_lt _ hB0;have fq:Fits (A / B):=fx.le hdl;have fr:Fits (A%B):=fy.le (by omega);have frr:Fits (A%B+A%B):=fy2.le (by omega);have hbq:=pw (nb (A / B)) (A / B) fq;rw[NL,hwn,ea,eb,eE s1,eE s2,Po hd,ed hbq];have hge:A / B<=dE A B/\dE A B<=A / B+1:=by unfold dE;split<;>omega
 by_cases hbig:bE (A / B)>53
 ·right;have h53:2^53<=A / B:=by
   rcases Nat.lt_or_ge (A / B) (2^53)with h|h
   ·have:=(cW (A / B) 53).2 h;omega
   ·exact h
  have hq:2^53<=bW x y ((k:Int)-1074):=by rw[hnear];omega
  refine⟨hq,rz x y k hy0 hq,?_⟩;rw[bz,hw6,aA]
 ·left;have h53:A / B<2^53:=(cW (A / B) 53).1 (by omega);have hq:bW x y ((k:Int)-1074)<=2^53:=by rw[hnear];omega
  obtain⟨hn,h52⟩:=Fb x y k hy0 hq hlow;rw[Ox hy0 hn];generalize bW x y ((k:Int)-1074)=q at *;have ha:=nV (nb (A%B)) (nb (A%B)) (A%B) (A%B) fr fr;have hc:=sY (nb (A%B+A%B)) (nb B) (A%B+A%B) B frr fy;have tail:=Ij k A B q hnear.symm hq (by omega) h52 fq;rw[bn,eE ha,ed hc];unfold fV;by_cases h1:A%B+A%B<B
  ·rw[if_pos h1,bn (by decide),bu (by decide),aA]
   exact tail false ⟨λ h=>absurd h (by decide),λ h=>by omega⟩
  ·rw[if_neg h1];by_cases h2:B<A%B+A%B
   ·rw[if_pos h2,bz (by decide),aA]
    exact tail true ⟨λ _=>by omega,λ _=>rfl⟩
   ·have hb0:rk prog aF (.call 153 [vl (nb (A / B)) (ws (A / B)),vi 0] [])=_:=wH (nb (A / B)) (A / B) 0 (by decide)
    rw[Nat.pow_zero,Nat.div_one]at hb0;rw[if_neg h2,bn (by decide),bK rfl,ed hb0,aA];refine tail _ ?_;rw[beq_iff_eq];constructor
    ·intro h;omega
    ·intro h;omega
theorem Mh(b c:Bool)(x y:Nat)(hx:qL x)(hy:qL y)(hy0:0<y):rk prog aF (.call 189 [vl b (ws x),vl c (ws y)] [])=some (.t [.d (.i .u64 ((fe x y).1:Nat)),.d (.b (fe x y).2)],[]):=by
 rw[f32,dP];by_cases h0:x=0
 ·have hl:(aQ x).length=0:=by rw[(fJ x).2 h0];rfl
  rw[hl,bK (show ((0:Nat):Int)=0 from rfl),aD,fe,if_pos h0];rfl
 ·have hl:(aQ x).length≠0:=λ e=>h0 ((fJ x).1 (List.length_eq_zero_iff.1 e));have h1:=pw b x hx.fits;have h2:=pw c y hy.fits;have hbx:=hx.bE;have hby:=hy.bE;have hw1:i64.wrap (((bE x:Nat):Int)-((bE y:Nat):Int))=(bE x:Int)-bE y:=U5;have hw3:i64.wrap ((bE x:Int)-bE y-53)=(bE x:Int)-bE y-53:=U5;have hE:(if -1074>(bE x:Int)-bE y-53 then(-1074:Int) else(bE x:Int)-bE y-53)=dB x y:=by unfold dB;split<;>omega
  have hE1:-1074<=dB x y:=Int.le_max_right ..;have hE2:dB x y<=4000:=by unfold dB;omega
  obtain⟨k,hk⟩:∃k:Nat,dB x y=(k:Int)-1074:=⟨(dB x y+1074).toNat,by omega⟩
  have h3:=Ko x y h0 hy0;rw[bu,ed h1,ed h2,hw1,hw3,hE,aA,hk];rw[hk,show (k:Int)-1074+2=((k+2:Nat):Int)-1074 by omega]at h3;have hlow:k=0\/E*2^(k-1)*y<=2*x*U:=by
   rcases Nat.eq_zero_or_pos k with h|h
   ·exact Or.inl h
   ·exact Or.inr (sH x y k h0 h (by unfold dB at hk;omega))
  rcases pz b c x y hx hy hy0 k (by omega) hlow with h|⟨-,l1,h⟩
  ·exact h
  ·rw[h];rcases pz b c x y hx hy hy0 (k+1) (by omega) (Or.inr l1)with h|⟨-,l2,h⟩
   ·exact h
   ·rw[h];rcases pz b c x y hx hy hy0 (k+1+1) (by omega) (Or.inr l2)with h|⟨l3,-,h⟩
    ·exact h
    ·exfalso;rw[show k+1+1=k+2 from rfl]at l3;omega
section
variable {f : Task → Option Out}
theorem vG(v:Nat)(a b:mP):gZ v (a++b)=gZ (gZ v a) b:=by simp[gZ,List.foldl_append]
theorem lS(a b:mP):cI (a++b)=cI a*10^b.length+cI b:=by rw[cI,vG,CK];rfl
theorem CY(m:Int)(x:Nat):iA m x=(x*10^m.toNat,10^(-m).toNat):=by
 unfold iA;split
 ·rename_i h;rw[show (-m).toNat=0 by omega]
 ·rename_i h;rw[show m.toNat=0 by omega,Nat.pow_zero,Nat.mul_one]
theorem Uc{t:Task}{k j:IntKind}{n m:Int}{b:Bool}{e e' e'':V}{K:Int->Bool->Int->Tr}(h:f t=some (.t [.d (.i k n),.d (.b b),.d (.i j m)],[])):
  aC f (.call t λ o=>aH o.snd.isEmpty (cL o.fst λ l=>aH (l.length==3) (bm (l.getD 0 e) λ d=>bR k d λ x=>bm (l.getD 1 e') λ d'=>fN d' λ y=>bm (l.getD 2 e'') λ d''=>bR j d'' λ z=>K x y z)))=aC f (K n b m):=by
 rw[cp h];show aC f (bR k (.i k n) λ x=>fN (.b b) λ y=>bR j (.i j m) λ z=>K x y z)=_;rw[bH,if_pos rfl,oJ,bH,if_pos rfl]
end
def sd(v:Nat)(d:mP):Nat:=d.foldl (λ a c=>min (a*10+cw c) 100000) v
theorem Jf:∀(d:mP) (v u:Nat),v=min u 100000->sd v d=min (gZ u d) 100000
 | [],v,u,h=>h
 |c::d,v,u,h=>Jf d (min (v*10+cw c) 100000) (u*10+cw c) (by omega)
def gh(s:mP):Int×Bool×Int:=
 match s with
 | []=>(0,false,0)
 |c::r=>if c≠101/\c≠69 then(0,false,2)
  else if (ch r).2=[] then(0,false,2)
  else if (ch r).2.all aG=true then((if (ch r).1=true then -(sd 0 (ch r).2:Int) else(sd 0 (ch r).2:Int)),decide (400<sd 0 (ch r).2),0)
  else(0,false,2)
def o3(x:Int×Bool×Int):Option Out:=some (.t [.d (.i .i64 x.1),.d (.b x.2.1),.d (.i .i64 x.2.2)],[])
theorem xw(m:Bool):∀(r p:mP) (v:Nat),(p++r).length<=1000000->v<=100000->
  rk prog aF (.at_ 188 0 (fw 2815) (vh (p++r) m (v:Int) (p.length:Int)) [] [])=
   o3 (if r.all aG=true then((if m=true then -(sd v r:Int) else(sd v r:Int)),decide (400<sd v r),0) else(0,false,2))
 | [],p,v,hl,hv=>by
  have hw:i64.wrap (0-(v:Int)) = -(v:Int):=U5;have hd:decide ((v:Int)>400)=decide (400<v):=by
   by_cases h:400<v
   ·rw[decide_eq_true h,decide_eq_true (by omega)]
   ·rw[decide_eq_false h,decide_eq_false (by omega)]
  rw[List.append_nil,xC,bn,if_pos (by rfl)]
  cases m with
  |true=>rw[bF,aD,hw,hd];rfl
  |false=>rw[bo,aD,hd];rfl
 |c::r,p,v,hl,hv=>by
  have hi:p.length<(p++c::r).length:=by simp
  have g:bJ (p++c::r) (p.length:Int)=some c:=by rw[bQ];simp
  have hpl:(p++[c]).length=p.length+1:=by simp
  have hlen:p.length+(r.length+1)<=1000000:=by simpa using hl
  have bad:aG c=false->o3 (if (c::r).all aG=true then((if m=true then -(sd v (c::r):Int) else(sd v (c::r):Int)),decide (400<sd v (c::r)),0) else(0,false,2))=o3 (0,false,2):=by intro h;rw[List.all_cons,h];rfl
  rw[xC,bz,aR g];by_cases h1:c.toNat<48
  ·have hd:aG c=false:=by simp[aG];omega
   rw[bz,aA,sw,bF,aD,bad hd];rfl
  ·rw[bn,aR g,aA,sw];by_cases h2:c.toNat<=57
   ·have hd:aG c=true:=by simp[aG];omega
    have hlt:=nD hd;rw[show decide ((c.toNat:Int)>57)=false from decide_eq_false (by omega),bo,aR g,rP hd];have w1:i64.wrap ((v:Int)*10)=((v*10:Nat):Int):=U5;have w2:i64.wrap ((cw c:Nat):Int)=((cw c:Nat):Int):=U5;have w3:i64.wrap (((v*10:Nat):Int)+((cw c:Nat):Int))=((v*10+cw c:Nat):Int):=U5;have w4:(if (100000:Int)<((v*10+cw c:Nat):Int)then 100000 else((v*10+cw c:Nat):Int))=((min (v*10+cw c) 100000:Nat):Int):=by split<;>omega
    have w5:i64.wrap ((p.length:Int)+1)=(((p++[c]).length:Nat):Int):=by rw[hpl,wrap_i64]<;>omega
    have ih:=xw m r (p++[c]) (min (v*10+cw c) 100000) (by simpa using hl) (by omega);rw[List.append_assoc,List.singleton_append]at ih;rw[w1,w2,w3,w4,w5,aA,ih,List.all_cons,hd];rfl
   ·have hd:aG c=false:=by simp[aG];omega
    rw[show decide ((c.toNat:Int)>57)=true from decide_eq_true (by omega),bF,aD,bad hd];rfl
theorem G9(s:mP)(hs:s.length<=1000000):rk prog aF (.call 188 [vs s] [])=o3 (gh s):=by
  rw[f27]
  cases s with
  |nil=>rw[bK (show (([]:mP).length:Int)=0 from rfl),aD];rfl
  |cons c r=>
    have hl:r.length<=1000000:=by simp at hs;omega
    have g:bJ (c::r) 0=some c:=rfl;have tl:List.take ((c::r).length-1) (List.drop 1 (c::r))=r:=by simp
    have hle:((0:Int)<=1/\(1:Int)<=(((c::r).length:Nat):Int)):=⟨by decide,by rw[List.length_cons];omega⟩
    have hne:(((c::r).length:Nat):Int)≠0:=by rw[List.length_cons];omega
    have main:¬(c≠101/\c≠69)->rk prog aF (.at_ 188 0 (fw 27) (sv 75 [(0,vs (c::r)),(18,vb false)]) [] [])=o3 (gh (c::r)):=by
      intro hc;unfold gh;simp only[if_neg hc];rw[Ek,bo,aJ hle,tl]
      cases r with
      |nil=>
        rw[bn (by decide),aA,tY,bo,bK (show (([]:mP).length:Int)=0 from rfl),aD];rfl
      |cons d q=>
        have g2:bJ (d::q) 0=some d:=rfl;have tl2:List.take ((d::q).length-1) (List.drop 1 (d::q))=q:=by simp
        have hle2:((0:Int)<=1/\(1:Int)<=(((d::q).length:Nat):Int)):=⟨by decide,by rw[List.length_cons];omega⟩
        have hl2:q.length<=1000000:=by simp at hl;omega
        have signed:d=43\/d=45->rk prog aF (.at_ 188 0 (fw 223) (wS (d::q) false true) [] [])=
            o3 (if (ch (d::q)).2=[] then(0,false,2)
    else if (ch (d::q)).2.all aG=true then((if (ch (d::q)).1=true then -(sd 0 (ch (d::q)).2:Int) else(sd 0 (ch (d::q)).2:Int)),decide (400<sd 0 (ch (d::q)).2),0)
    else(0,false,2)):=by
          intro hd;have hsg:ch (d::q)=(decide (d=45),q):=by rcases hd with rfl|rfl<;>rfl
          rw[hsg,tY,bF,aR g2,aJ hle2,tl2,zb];by_cases hq:q=[]
          · subst hq
            rw[bK (show (([]:mP).length:Int)=0 from rfl),aD];rfl
          · have hq0:((q.length:Nat):Int)≠0:=by have:=List.length_pos_iff.2 hq;omega
            have hL:=xw (decide (d=45)) q [] 0 (by simpa using hl2) (by decide);rw[List.nil_append]at hL;rw[bu hq0,aA,if_neg hq];exact hL
        rw[bz (by rw[List.length_cons];omega),aR g2,PT];by_cases h43:d=43
        · rw [bz h43, aA]
          exact signed (Or.inl h43)
        · rw [bn h43, aR g2, zb, aA]
          by_cases h45:d=45
          · rw [decide_eq_true h45]
            exact signed (Or.inr h45)
          · have hsg : ch (d :: q) = (false, d :: q) := by simp [ch, h43, h45]
            have hL:=xw false (d::q) [] 0 (by simpa using hl) (by decide);rw[List.nil_append]at hL;rw[decide_eq_false h45,hsg,tY,bo,bu (by rw[List.length_cons];omega),aA,if_neg (by simp)];exact hL
    rw[bu hne,aR g,PR];by_cases h1:c=101
    · rw [bn (by simpa using h1), aA]
      exact main (by simp[h1])
    · rw [bz h1, aR g, SH, aA]
      by_cases h2:c=69
      · rw [decide_eq_false (by simpa using h2)]
        exact main (by simp[h2])
      · rw [decide_eq_true h2, Ek, bF, aD]
        simp[gh,h1,h2,o3]
def dv(l:mP):List D:=ints .u8 (l.map λ c=>((cw c:Nat):Int))
theorem nF(l:mP):(dv l).length=l.length:=by simp[dv]
theorem QF(l:mP)(c:UInt8):dv l++[D.i .u8 ((cw c:Nat):Int)]=dv (l++[c]):=by simp[dv,ints]
def Ka(s:mP)(sg:Nat)(b:Bool)(acc:mP)(pt:Bool)(af:Nat):Task:=
 Task.at_ 150 0 (fw 159) (uK s (sg:Int) b (dv acc) pt (af:Int)) [(5,1)] []
def SB(s:mP)(sg:Nat)(b:Bool)(acc:mP)(pt:Bool)(af:Nat)(go:Bool):Task:=
 Task.at_ 150 0 (fw 1567) (RZ s (sg:Int) b (dv acc) pt (af:Int) go) [(5,1)] []
theorem F2(sg:Nat)(b:Bool)(acc:mP)(pt:Bool)(af:Nat):rk prog aF (Ka [] sg b acc pt af)=rk prog aF (SB [] sg b acc pt af false):=by unfold Ka SB;rw[pX,bn (by decide),aA]
theorem s9(c:UInt8)(r:mP):List.take ((c::r).length-1) (List.drop 1 (c::r))=r:=by simp
theorem wK(c:UInt8)(r:mP):((0:Int)<=1/\(1:Int)<=(((c::r).length:Nat):Int)):=⟨by decide,by rw[List.length_cons];omega⟩
theorem F1(c:UInt8)(r:mP)(hc:aG c=true)(sg:Nat)(b:Bool)(acc:mP)(pt:Bool)(af:Nat)(ha:acc.length<=1000000)(haf:af<=1000000):
  rk prog aF (Ka (c::r) sg b acc pt af)=rk prog aF (Ka r sg false (acc++[c]) pt (if pt=true then af+1 else af)):=by
 have h:=(eS c).1 hc;have g:bJ (c::r) 0=some c:=rfl;have h46:(c.toNat:Int)≠46:=by omega
 have hw:=Wv af;have hh:bw 1 (dv acc)=true:=eR _ _;unfold Ka;rw[pX,bz (by rw[List.length_cons];omega),aR g,bz,aR g,bz,aA,re,bF,aR g,bu h46,aR g,hh,aN,Bool.or_true,aN,aJ (by rw[nF];omega),rP hc,QF,Bool.and_false]
 cases pt with
 |true=>rw[bF,hw,aA,rh,aJ (wK c r),s9,aA,if_pos rfl]
 |false=>rw[bo,aA,rh,aJ (wK c r),s9,aA,if_neg (by decide)]
theorem Pb(r:mP)(sg:Nat)(b:Bool)(acc:mP)(af:Nat):
  rk prog aF (Ka (46::r) sg b acc false af)=rk prog aF (Ka r sg b acc true af):=by
 have g:bJ ((46:UInt8)::r) 0=some 46:=rfl;unfold Ka;rw[pX,bz (by rw[List.length_cons];omega),aR g,bn (by decide),aR g,bK (by rfl),aA,re,iI,aR g,bK (by rfl),aA,rh,aJ (wK 46 r),s9,aA]
theorem BD(c:UInt8)(r:mP)(hc:aG c=false)(sg:Nat)(b:Bool)(acc:mP)(pt:Bool)(af:Nat)(hp:c=46->pt=true):
  rk prog aF (Ka (c::r) sg b acc pt af)=rk prog aF (SB (c::r) sg b acc pt af false):=by
 have h:=mt (eS c).2 (by rw[hc];decide);have g:bJ (c::r) 0=some c:=rfl;unfold Ka SB;rw[pX,bz (by rw[List.length_cons];omega),aR g];have fin:aC (rk prog aF) (aM ((c.toNat:Int)==46)
   (Tr.call (.at_ 150 0 (fw 1567) (sv 133 [(0,vs (c::r)),(4,vu (sg:Int)),(5,vl b (dv acc)),(6,vb pt),(7,vi (af:Int)),(55,V.d (D.b !pt))]) [(5,1)] []) Tr.ret)
   (Tr.call (.at_ 150 0 (fw 1567) (RZ (c::r) (sg:Int) b (dv acc) pt (af:Int) false) [(5,1)] []) Tr.ret))=
   rk prog aF (.at_ 150 0 (fw 1567) (RZ (c::r) (sg:Int) b (dv acc) pt (af:Int) false) [(5,1)] []):=by
  rw[SG];by_cases hd:c=46
  ·rw[bz hd,aA,hp hd];rfl
  ·rw[bn hd,aA]
 by_cases h1:c.toNat<48
 ·rw[bn,aR g];exact fin
 ·rw[bz,aR g,bn,aR g];exact fin
theorem yH(sg:Nat):∀(r:mP) (b:Bool) (acc:mP) (af:Nat),acc.length+r.length<=4000->af+r.length<=4000->
  ∃b',rk prog aF (Ka r sg b acc true af)=rk prog aF (SB (r.dropWhile aG) sg b' (acc++r.takeWhile aG) true (af+(r.takeWhile aG).length) false)
 | [],b,acc,af,_,_=>⟨b,by rw[F2];simp⟩
 |c::r,b,acc,af,h1,h2=>by
  rw[List.length_cons]at h1 h2;by_cases hc:aG c=true
  ·obtain⟨b',hb⟩:=yH sg r false (acc++[c]) (af+1) (by simp;omega) (by omega)
   refine⟨b',?_⟩;rw[F1 c r hc sg b acc true af (by omega) (by omega),if_pos rfl,hb,List.dropWhile_cons,List.takeWhile_cons,hc,if_pos rfl,if_pos rfl,List.append_assoc,List.singleton_append,List.length_cons,show af+1+(r.takeWhile aG).length=af+((r.takeWhile aG).length+1) by omega]
  ·have hc':aG c=false:=by simpa using hc
   refine⟨b,?_⟩;rw[BD c r hc' sg b acc true af (λ _=>rfl),List.dropWhile_cons,List.takeWhile_cons,hc',if_neg (by decide),if_neg (by decide),List.append_nil];rfl
def fR(s:mP):mP×mP×Bool×mP:=
 match s.dropWhile aG with
 | []=>([],s.takeWhile aG,false,[])
 |c::r=>if c=46 then(r.dropWhile aG,s.takeWhile aG,true,r.takeWhile aG) else(c::r,s.takeWhile aG,false,[])
theorem F0(sg:Nat):∀(r:mP) (b:Bool) (acc:mP),acc.length+r.length<=4000->
  ∃b',rk prog aF (Ka r sg b acc false 0)=rk prog aF (SB (fR r).1 sg b' (acc++(fR r).2.1++(fR r).2.2.2) (fR r).2.2.1 (fR r).2.2.2.length false)
 | [],b,acc,_=>⟨b,by rw[F2];simp[fR]⟩
 |c::r,b,acc,h1=>by
  rw[List.length_cons]at h1;by_cases hc:aG c=true
  ·obtain⟨b',hb⟩:=F0 sg r false (acc++[c]) (by simp;omega)
   refine⟨b',?_⟩;have e:fR (c::r)=((fR r).1,c::(fR r).2.1,(fR r).2.2.1,(fR r).2.2.2):=by
    unfold fR;rw[List.dropWhile_cons,List.takeWhile_cons,hc,if_pos rfl,if_pos rfl];split
    ·rfl
    ·split<;>rfl
   rw[F1 c r hc sg b acc false 0 (by omega) (by omega),if_neg (by decide),hb,e];simp
  ·have hc':aG c=false:=by simpa using hc
   by_cases hd:c=46
   ·subst hd;obtain⟨b',hb⟩:=yH sg r b acc 0 (by omega) (by omega);refine⟨b',?_⟩;have e:fR (46::r)=(r.dropWhile aG,[],true,r.takeWhile aG):=by unfold fR;rw[List.dropWhile_cons,List.takeWhile_cons,hc',if_neg (by decide),if_neg (by decide)];simp
    rw[Pb,hb,e];simp
   ·refine⟨b,?_⟩;have e:fR (c::r)=(c::r,[],false,[]):=by unfold fR;rw[List.dropWhile_cons,List.takeWhile_cons,hc',if_neg (by decide),if_neg (by decide)];simp[hd]
    rw[BD c r hc' sg b acc false 0 (λ h=>absurd h hd),e];simp
def UK(sg:Nat)(b:Bool)(ds:mP)(af:Nat)(ex:Int)(bx:Bool)(x i:Nat)(fl:List (Nat×Nat)):Task:=
 Task.at_ 150 0 (fw 45055) (H5 (sg:Int) b (dv ds) (af:Int) ex bx (ws x) (i:Int)) fl []
def Ke(neg:Bool):Nat:=if neg=true then 9223372036854775808 else 0
def Fo(neg:Bool)(x:Nat)(m:Int):Nat×Int:=
 if (fe (iA m x).1 (iA m x).2).2=false then(0,5) else(ox neg (fe (iA m x).1 (iA m x).2).1,0)
def o2(x:Nat×Int):Option Out:=some (.t [.d (.i .u64 (x.1:Nat)),.d (.i .i64 x.2)],[])
theorem Vu(neg:Bool){v:Nat}(h:v<2^63):u64.wrap (((BitVec.ofInt u64.bits ((Ke neg:Nat):Int) ||| BitVec.ofInt u64.bits (v:Int)).toNat:Nat):Int)=((ox neg v:Nat):Int):=by
 cases neg with
 |true=>
  have:=(C6 h).1;rw[show (BitVec.ofInt u64.bits ((Ke true:Nat):Int) ||| BitVec.ofInt u64.bits (v:Int))=(BitVec.ofInt u64.bits (v:Int) ||| BitVec.ofInt u64.bits 9223372036854775808)from BitVec.or_comm ..];exact this
 |false=>
  have:=k6 (a:=0) (b:=v) (by decide) (by omega);rw[Nat.zero_or]at this;have e:(BitVec.ofInt u64.bits ((Ke false:Nat):Int) ||| BitVec.ofInt u64.bits (v:Int)).toNat=v:=this;rw[e,aT];show (v:Int)%_=(v:Int);omega
theorem TF(neg:Bool)(b c:Bool)(p q:Nat)(hp:qL p)(hq:qL q)(hq0:0<q)(fl:List (Nat×Nat))(hfl:fl=[]\/fl=[(11,1)]):
  rk prog aF (.at_ 150 0 (fw 131071) (Bq ((Ke neg:Nat):Int) b (ws p) c (ws q)) fl [])=
   o2 (if (fe p q).2=false then(0,5) else(ox neg (fe p q).1,0)):=by
 have h:=Mh b c p q hp hq hq0;have hlt:=DJ p q hq0;have hor:=Vu neg hlt;rcases hfl with rfl|rfl
 ·rw[Cl,BH h,hor]
  cases (fe p q).2 with
  |true=>rw[jF,aD];rfl
  |false=>rw[iI,aD];rfl
 ·rw[xz,BH h,hor]
  cases (fe p q).2 with
  |true=>rw[jF,aD];rfl
  |false=>rw[iI,aD];rfl
theorem O6(neg:Bool)(b:Bool)(ds:mP)(af:Nat)(ex:Int)(bx:Bool)(x i:Nat)(fl:List (Nat×Nat))(hfl:fl=[(11,1),(5,1)]\/fl=[(5,1)])(hi:i=ds.length)(hx:x<10^60)(hm1:-500<=ex-af)(hm2:ex-af<=500)(haf:af<=1000):
  rk prog aF (UK (Ke neg) b ds af ex bx x i fl)=o2 (Fo neg x (ex-af)):=by
 have hmx:qL x:=fK (Nat.lt_trans hx (dW (n:=60) (by decide)));have w1:i64.wrap (ex-(af:Int))=ex-(af:Int):=U5;unfold Fo;rw[CY];obtain⟨m,hm⟩:∃m:Int,m=ex-(af:Int):=⟨_,rfl⟩
 rw[<-hm]at hm1 hm2 w1⊢;have m1:qL (x*10^m.toNat):=by have:=(FH (m:=m) hx hm1 hm2).1;rw[CY]at this;exact this
 have m2:qL (10^(-m).toNat):=fK (dW (by omega));have p2:0<10^(-m).toNat:=Nat.pow_pos (by decide);have fin:∀X:Option Out,(∀(b1 b2:Bool) (fl':List (Nat×Nat)),fl'=[]\/fl'=[(11,1)]->rk prog aF (.at_ 150 0 (fw 131071) (Bq ((Ke neg:Nat):Int) b1 (ws (x*10^m.toNat)) b2 (ws (10^(-m).toNat))) fl' [])=X)->rk prog aF (UK (Ke neg) b ds af ex bx x i fl)=X:=by
  intro X hX;unfold UK;by_cases h:m ≥ 0
  ·have ht:=p9 m.toNat (by omega)
   rw[show ((m.toNat:Nat):Int)=m by omega]at ht;have hmul:=nX bx (tb m.toNat) x (10^m.toNat) hmx.fits (fK (dW (by omega))).fits;have h1:=hX (nb (x*10^m.toNat)) true [] (Or.inl rfl);rw[show (-m).toNat=0 by omega,Nat.pow_zero,Dr]at h1;rcases hfl with rfl|rfl
   ·rw[oU,nF,bn,<-hm,w1,bz h,eE ht,eE hmul,aA];exact h1
   ·rw[mg,nF,bn,<-hm,w1,bz h,eE ht,eE hmul,aA];exact h1
  ·have ht:=p9 (-m).toNat (by omega)
   have w2:i64.wrap (0-m)=(((-m).toNat:Nat):Int):=U5;have h1:=hX bx (tb (-m).toNat) [(11,1)] (Or.inr rfl);have h2:=hX bx (tb (-m).toNat) [] (Or.inl rfl);rw[show m.toNat=0 by omega,Nat.pow_zero,Nat.mul_one]at h1 h2;rcases hfl with rfl|rfl
   ·rw[oU,nF,bn,<-hm,w1,bn h,w2,eE ht,aA];exact h1
   ·rw[mg,nF,bn,<-hm,w1,bn h,w2,eE ht,aA];exact h2
 exact fin _ λ b1 b2 fl' hfl'=>TF neg b1 b2 _ _ m1 m2 p2 fl' hfl'
theorem JM(neg:Bool)(b:Bool)(ds:mP)(hds:∀c∈ds,aG c=true)(hdl:ds.length<=60)(af:Nat)(ex:Int)(hm1:-500<=ex-af)(hm2:ex-af<=500)(haf:af<=1000):∀(d i:Nat) (bx:Bool) (fl:List (Nat×Nat)),i+d=ds.length->(fl=[(11,1),(5,1)]\/fl=[(5,1)])->
  rk prog aF (UK (Ke neg) b ds af ex bx (cI (ds.take i)) i fl)=o2 (Fo neg (cI ds) (ex-af))
 |0,i,bx,fl,hi,hfl=>by
  have h1:ds.take i=ds:=List.take_of_length_le (by omega);rw[h1];exact O6 neg b ds af ex bx (cI ds) i fl hfl (by omega) (Nat.lt_of_lt_of_le (CJ ds hds) (Nat.pow_le_pow_right (by decide) hdl)) hm1 hm2 haf
 |d+1,i,bx,fl,hi,hfl=>by
  have hil:i<ds.length:=by omega
  have hc:aG ds[i]=true:=hds _ (List.getElem_mem hil);have hlt:=nD hc;have hx:cI (ds.take i)<10^60:=Nat.lt_of_lt_of_le (CJ _ λ c h=>hds c (List.mem_of_mem_take h)) (Nat.pow_le_pow_right (by decide) (by rw[List.length_take];omega));have hstep:cI (ds.take (i+1))=cI (ds.take i)*10+cw ds[i]:=by rw[List.take_add_one,List.getElem?_eq_getElem hil,Option.toList_some,lS];have h1:cI [ds[i]]=0*10+cw ds[i]:=rfl;rw[h1,Nat.zero_mul,Nat.zero_add];rfl
  have ih:=JM neg b ds hds hdl af ex hm1 hm2 haf d (i+1) (nb (cI (ds.take (i+1)))) [(5,1)] (by omega) (Or.inr rfl);have hgd:(dv ds)[i]?=some (D.i .u8 ((cw ds[i]:Nat):Int)):=by unfold dv;rw[eJ,List.getElem?_map,List.getElem?_eq_getElem hil];rfl
  have hgI:bJ (dv ds) (i:Int)=some (D.i .u8 ((cw ds[i]:Nat):Int)):=by rw[bQ,hgd]
  have fx:∀k,k<10^61->Fits k:=λ k hk=>(fK (Nat.lt_trans hk (dW (n:=61) (by decide)))).fits;have hm:rk prog aF (.call 105 [vl bx (ws (cI (ds.take i))),vl true [D.i u32 10]] [])=some (.d (.l (nb (cI (ds.take i)*10)) (ws (cI (ds.take i)*10))),[]):=by have:=nX bx true (cI (ds.take i)) 10 (fx _ (by omega)) (fx _ (by omega));rw[show ws 10=[D.i u32 10] by rw[ws,fi (by decide),show 10 / W=0 by decide,cc];rfl]at this;exact this
  have hw:u64.wrap ((cw ds[i]:Nat):Int)=((cw ds[i]:Nat):Int):=by rw[aT];omega
  have ho:=yA (cw ds[i]) (by omega);have ha:=nV (nb (cI (ds.take i)*10)) (nb (cw ds[i])) (cI (ds.take i)*10) (cw ds[i]) (fx _ (by omega)) (fx _ (by omega));have hw2:=Wv i;rw[<-hstep]at ha;rw[<-ih];unfold UK;rcases hfl with rfl|rfl
  ·rw[oU,nF,bz,eE hm,aR hgI,nc,aN,Int.toNat_natCast,aR hgd,aR (my _ _),bS,hw,eE ho,eE ha,hw2,aA]
  ·rw[mg,nF,bz,eE hm,aR hgI,nc,aN,Int.toNat_natCast,aR hgd,aR (my _ _),bS,hw,eE ho,eE ha,hw2,aA]
theorem Qo{a b:mP}(ha:∀c∈a,aG c=true)(hb:∀c∈b,aG c=true):∀c∈a++b,aG c=true:=λ c hc=>(List.mem_append.1 hc).elim (ha c) (hb c)
theorem yT(w t:mP)(hw:∀c∈w,aG c=true)(ht:t.takeWhile aG=[]):(w++t).takeWhile aG=w:=by
 induction w with
 |nil=>exact ht
 |cons c w ih=>
  rw[List.cons_append,List.takeWhile_cons,hw c (by simp),if_pos rfl,ih λ c h=>hw c (by simp[h])]
theorem Jn(w t:mP)(hw:∀c∈w,aG c=true)(ht:t.dropWhile aG=t):(w++t).dropWhile aG=t:=by
 induction w with
 |nil=>exact ht
 |cons c w ih=>
  rw[List.cons_append,List.dropWhile_cons,hw c (by simp),if_pos rfl,ih λ c h=>hw c (by simp[h])]
def Rv(s:mP):Nat×Int:=
 let n:=(ch s).1
 let q:=fR (ch s).2
 if q.2.1++q.2.2.2=[]\/(q.2.2.1=true/\q.2.2.2=[]) then(0,2)
 else if (gh q.1).2.2≠0 then(0,(gh q.1).2.2)
 else if 60<(q.2.1++q.2.2.2).length then(0,4)
 else if (gh q.1).2.1=true then(0,5)
 else Fo n (cI (q.2.1++q.2.2.2)) ((gh q.1).1-(q.2.2.2.length:Int))
theorem QI(s:mP)(h:(gh s).2.1=false):-400<=(gh s).1/\(gh s).1<=400:=by
 unfold gh at h⊢;split
 ·exact⟨by decide,by decide⟩
 ·rename_i c r;simp only at h⊢;split
  ·exact⟨by decide,by decide⟩
  ·rename_i h1;rw[if_neg h1]at h;split
   ·exact⟨by decide,by decide⟩
   ·rename_i h2;rw[if_neg h2]at h;split
    ·rename_i h3;rw[if_pos h3]at h;have:=of_decide_eq_false h;simp only;split<;>omega
    ·exact⟨by decide,by decide⟩
theorem Ml(s:mP):(∀c∈(fR s).2.1++(fR s).2.2.2,aG c=true)/\(fR s).1.length<=s.length/\(fR s).2.2.2.length<=s.length/\((fR s).2.1++(fR s).2.2.2).length<=s.length:=by
 have h1:=mR s;have hl:(s.takeWhile aG).length+(s.dropWhile aG).length=s.length:=by
  have:=congrArg List.length (List.takeWhile_append_dropWhile (p:=aG) (l:=s))
  rwa[List.length_append]at this
 unfold fR;split
 ·rename_i e;rw[e]at hl;refine⟨by simpa using h1,by simp,by simp,by simp only[List.append_nil];simp at hl;omega⟩
 ·rename_i c r e;rw[e,List.length_cons]at hl;have hr:(r.takeWhile aG).length+(r.dropWhile aG).length=r.length:=by
   have:=congrArg List.length (List.takeWhile_append_dropWhile (p:=aG) (l:=r))
   rwa[List.length_append]at this
  split
  ·exact⟨Qo h1 (mR r),by simp only;omega,by simp only;omega,by simp only[List.length_append];omega⟩
  ·refine⟨by simpa using h1,by simp only[List.length_cons];omega,by simp,by simp only[List.append_nil];omega⟩
theorem O0(neg:Bool)(t:mP)(b:Bool)(ds:mP)(hds:∀c∈ds,aG c=true)(pt:Bool)(af:Nat)(ht:t.length<=4000)(haf:af<=ds.length)(hdl:ds.length<=4000):
  rk prog aF (SB t (Ke neg) b ds pt af false)=o2 (if ds=[]\/(pt=true/\af=0) then(0,2)
   else if (gh t).2.2≠0 then(0,(gh t).2.2)else if 60<ds.length then(0,4)else if (gh t).2.1=true then(0,5)else Fo neg (cI ds) ((gh t).1-(af:Int))):=by
 have he:=G9 t (by omega);have rest:∀bad:Bool,rk prog aF (.at_ 150 0 (fw 447)
   (Mk t ((Ke neg:Nat):Int) b (dv ds) (af:Int) bad) [(5,1)] [])=
   o2 (if bad=true then(0,2)else if (gh t).2.2≠0 then(0,(gh t).2.2)else if 60<ds.length then(0,4)else if (gh t).2.1=true then(0,5)else Fo neg (cI ds) ((gh t).1-(af:Int))):=by
  intro bad;rw[Lb]
  cases bad with
  |true=>rw[bF,aD,if_pos rfl];rfl
  |false=>
   rw[bo,Uc he,if_neg (by decide)];by_cases h1:(gh t).2.2≠0
   ·rw[ep h1,aD,if_pos h1];rfl
   ·have h1':(gh t).2.2=0:=by omega
    rw[dN h1',if_neg h1,nF];by_cases h2:60<ds.length
    ·rw[bz,aD,if_pos h2];rfl
    ·rw[bn,if_neg h2]
     cases h3:(gh t).2.1 with
     |true=>rw[bF,aD,if_pos rfl];rfl
     |false=>
      have hle:=QI t h3;have hN:=JM neg b ds hds (by omega) af (gh t).1 (by omega) (by omega) (by omega) ds.length 0 true [(11,1),(5,1)] (by omega) (Or.inl rfl);rw[List.take_zero,show cI []=0 from rfl]at hN;unfold UK at hN;rw[tG,Int.natCast_zero]at hN;rw[bo,aA,if_neg (by decide)];exact hN
 unfold SB;rw[re,bo,nF];by_cases h0:ds=[]
 ·have hl0:((ds.length:Nat):Int)=0:=by rw[h0];rfl
  rw[bK hl0,aA,rest true,if_pos rfl,if_pos (Or.inl h0)]
 ·have hl0:((ds.length:Nat):Int)≠0:=by have:=List.length_pos_iff.2 h0;omega
  rw[bu hl0]
  cases pt with
  |false=>rw[bo,aA,rest false,if_neg (show ¬(false=true) by decide),if_neg (show ¬(ds=[]\/(false=true/\af=0)) by simp[h0])]
  |true=>
   rw[bF,aA,rest _];by_cases ha:af=0
   ·rw[if_pos (by rw[beq_iff_eq];omega),if_pos (Or.inr ⟨rfl,ha⟩)]
   ·have hn:¬(ds=[]\/(true=true/\af=0)):=by
     rintro(h|⟨-,h⟩)
     ·exact h0 h
     ·exact ha h
    rw[if_neg (show ¬(((af:Int)==0)=true) by rw[beq_iff_eq];omega),if_neg hn]
theorem Im(s:mP)(hs:s.length<=2000):rk prog aF (.call 150 [vs s] [])=o2 (Rv s):=by
 have main:∀(neg:Bool) (u:mP),u.length<=2000->rk prog aF (Ka u (Ke neg) true [] false 0)=o2 (
   let q:=fR u
   if q.2.1++q.2.2.2=[]\/(q.2.2.1=true/\q.2.2.2=[]) then(0,2)
   else if (gh q.1).2.2≠0 then(0,(gh q.1).2.2)
   else if 60<(q.2.1++q.2.2.2).length then(0,4)
   else if (gh q.1).2.1=true then(0,5)
   else Fo neg (cI (q.2.1++q.2.2.2)) ((gh q.1).1-(q.2.2.2.length:Int))):=by
  intro neg u hu;obtain⟨b',hb⟩:=F0 (Ke neg) u true [] (by simp;omega);obtain⟨s1,s2,s3,s4⟩:=Ml u;rw[hb,List.nil_append,O0 neg _ b' _ s1 _ _ (by omega) (by rw[List.length_append];omega) (by omega)];have e:((fR u).2.2.2.length=0)=((fR u).2.2.2=[]):=propext List.length_eq_zero_iff;simp only[e]
 have sgn:∀(neg:Bool) (c:UInt8) (r:mP),(c::r).length<=2000->rk prog aF (.at_ 150 0 (fw 107) (sv 133 [(0,vs (c::r)),(4,vu ((Ke neg:Nat):Int))]) [] [])=rk prog aF (Ka r (Ke neg) true [] false 0):=by intro neg c r h;rw[La,aJ (wK c r),s9,aA];rfl
 rw[f14];unfold Rv
 cases s with
 |nil=>
  rw[bn (by decide),aA,xA,bo,aA];exact main false [] (by decide)
 |cons c r=>
  have g:bJ (c::r) 0=some c:=rfl;have hr:r.length<=2000:=by simp at hs;omega
  rw[bz (by rw[List.length_cons];omega),aR g,PT];by_cases h43:c=43
  ·rw[bz h43,aA,xA,bF,aR g,zb,bn (by rw[h43];decide),aA]
   have e:ch (c::r)=(false,r):=by rw[h43];rfl
   have:=sgn false c r hs;rw[main false r hr]at this;rw[e];exact this
  ·rw[bn h43,aR g,zb,aA,xA];by_cases h45:c=45
   ·rw[decide_eq_true h45,bF,aR g,zb,bz h45,aA];have e:ch (c::r)=(true,r):=by rw[h45];rfl
    have:=sgn true c r hs;rw[main true r hr]at this;rw[e];exact this
   ·rw[decide_eq_false h45,bo,aA];have e:ch (c::r)=(false,c::r):=by simp[ch,h43,h45]
    rw[e];exact main false (c::r) hs
theorem JK:∀(d:mP) (v:Nat),v*10^d.length<=gZ v d:=by intro d v;rw[CK];exact Nat.le_add_right _ _
theorem Qq(t:Tx)(hd:∀c∈t.ex,aG c=true):k8 t=(if 400<cI t.ex then((k8 t).1,false) else((if t.en=true then -(cI t.ex:Int) else(cI t.ex:Int)),true)):=by
 have hz:=kZ t.ex;have hdd:∀c∈t.ex.dropWhile (· == 48),aG c=true:=λ c h=>hd c ((List.dropWhile_sublist _).subset h);by_cases h3:3<(t.ex.dropWhile (· == 48)).length
 ·-- four digits,the first not nought
  have hbig:400<cI t.ex:=by
   rw[<-hz]
   cases he:t.ex.dropWhile (· == 48) with
   |nil=>rw[he]at h3;simp at h3
   |cons c r=>
    have hc48:¬(c==48)=true:=by have:=List.head?_dropWhile_not (λ x:UInt8=>x==48) t.ex;rw[he]at this;simpa using this
    have hc:=hdd c (by rw[he];simp);have h1:1<=cw c:=by have h48:c≠48:=λ e=>hc48 (by rw[e];rfl);have hn:c.toNat≠48:=λ e=>h48 (UInt8.toNat_inj.1 e);have:=(eS c).1 hc;unfold cw;omega
    rw[he,List.length_cons]at h3;have h2:=JK r (0*10+cw c);have h4:10^3<=10^r.length:=Nat.pow_le_pow_right (by decide) (by omega);have h5:1*10^r.length<=(0*10+cw c)*10^r.length:=Nat.mul_le_mul_right _ (by omega);show 400<gZ (0*10+cw c) r;omega
  rw[if_pos hbig];have e:(k8 t).2=false:=by unfold k8;rw[if_pos h3]
  exact Prod.ext rfl e
 ·unfold k8;rw[if_neg h3];simp only[hz];by_cases hb:400<cI t.ex
  ·rw[if_pos hb];refine Prod.ext rfl ?_;simp only;cases t.en
   ·simp;omega
   ·simp;omega
  ·rw[if_neg hb];refine Prod.ext rfl ?_;simp only;cases t.en
   ·simp;omega
   ·simp;omega
theorem M1{d:mP}(h:d.all aG=true):d.takeWhile aG=d/\d.dropWhile aG=[]:=by rw[List.all_eq_true]at h;have h1:=yT d [] h rfl;have h2:=Jn d [] h rfl;rw[List.append_nil]at h1 h2;exact⟨h1,h2⟩
theorem NB{d:mP}(h:d.dropWhile aG=[]):d.all aG=true:=by have h1:d.takeWhile aG++d.dropWhile aG=d:=List.takeWhile_append_dropWhile;rw[h,List.append_nil]at h1;rw[<-h1,List.all_eq_true];exact mR d
theorem QJ(n:Bool)(w p t:mP)(h:¬(w=[]/\p=[])):
  ((im n w p t).2=false/\(gh t).2.2=2) ∨
  ((im n w p t).2=true/\(gh t).2.2=0/\(((gh t).2.1=true/\(k8 (im n w p t).1).2=false)\/((gh t).2.1=false/\k8 (im n w p t).1=((gh t).1,true)))):=by
 unfold im;rw[if_neg h]
 cases t with
 |nil=>exact Or.inr ⟨rfl,rfl,Or.inr ⟨rfl,rfl⟩⟩
 |cons c r=>
  by_cases h1:c≠101/\c≠69
  ·simp only[gh,if_pos h1];exact Or.inl ⟨by trivial,by trivial⟩
  ·simp only[gh,if_neg h1];by_cases h2:(ch r).2=[]
   ·rw[if_pos h2,h2];exact Or.inl ⟨rfl,rfl⟩
   ·rw[if_neg h2];by_cases h3:(ch r).2.all aG=true
    ·obtain⟨e1,e2⟩:=M1 h3;rw[if_pos h3,e1,e2];refine Or.inr ⟨by simp[h2],rfl,?_⟩;rw[List.all_eq_true]at h3;have hb:=Qq ⟨n,w,p,(ch r).1,(ch r).2⟩ h3;have hcap:sd 0 (ch r).2=min (cI (ch r).2) 100000:=Jf _ 0 0 rfl;simp only at hb⊢;rw[hcap];by_cases hbig:400<cI (ch r).2
     ·rw[if_pos hbig]at hb;refine Or.inl ⟨decide_eq_true (by omega),?_⟩;rw[hb]
     ·rw[if_neg hbig]at hb;refine Or.inr ⟨decide_eq_false (by omega),?_⟩;rw[hb,show min (cI (ch r).2) 100000=cI (ch r).2 by omega]
    ·rw[if_neg h3];refine Or.inl ⟨?_,rfl⟩;have:(ch r).2.dropWhile aG≠[]:=λ e=>h3 (NB e);simp[this]
theorem Rw(s:mP):Rv s=dp s:=by
 have key:∀(n:Bool) (w p t:mP),¬(w=[]/\p=[])->
   (if (gh t).2.2≠0 then(0,(gh t).2.2)else if 60<(w++p).length then(0,4)else if (gh t).2.1=true then(0,5)else Fo n (cI (w++p)) ((gh t).1-(p.length:Int)))=
   (if (im n w p t).2=false then(0,2)
    else if 60<(im n w p t).1.whole.length+(im n w p t).1.part.length then(0,4)
    else if (k8 (im n w p t).1).2=false then(0,5)
    else
     let r:=iA ((k8 (im n w p t).1).1-(im n w p t).1.part.length) (cI ((im n w p t).1.whole++(im n w p t).1.part))
     if (fe r.1 r.2).2=false then(0,5) else(ox (im n w p t).1.neg (fe r.1 r.2).1,0)):=by
  intro n w p t h;obtain⟨f1,f2⟩:=kW n w p t;have f3:(im n w p t).1.neg=n:=by
   unfold im;split
   ·rfl
   ·split
    ·rfl
    ·split<;>rfl
  rw[f1,f2,f3,List.length_append];rcases QJ n w p t h with⟨h1,h2⟩|⟨h1,h2,h3⟩
  ·rw[if_pos h1,h2];rfl
  ·rw[h1,h2,if_neg (show ¬((0:Int)≠0) by decide),if_neg (show ¬(true=false) by decide)]
   by_cases h60:60<w.length+p.length
   ·rw[if_pos h60,if_pos h60]
   ·rw[if_neg h60,if_neg h60];rcases h3 with⟨h3,h4⟩|⟨h3,h4⟩
    ·rw[if_pos h3,if_pos h4]
    ·rw[h3,h4,if_neg (show ¬(false=true) by decide),if_neg (show ¬(true=false) by decide)]
     rfl
 have none_:∀(n:Bool) (t:mP),(im n [] [] t).2=false:=λ n t=>by unfold im;rw[if_pos ⟨rfl,rfl⟩]
 unfold Rv dp splitB;simp only;generalize (ch s).1=n;generalize (ch s).2=u;unfold fR
 cases hd:u.dropWhile aG with
 |nil=>
  simp only[List.append_nil,Bool.false_eq_true,false_and,or_false];by_cases hw:u.takeWhile aG=[]
  ·rw[if_pos hw,hw,if_pos (none_ n [])]
  ·rw[if_neg hw];have:=key n (u.takeWhile aG) [] [] (λ h=>hw h.1);rw[List.append_nil]at this;exact this
 |cons c r=>
  by_cases h46:c=46
  ·simp only[if_pos h46];by_cases hp:r.takeWhile aG=[]
   ·rw[if_pos (Or.inr ⟨trivial,hp⟩),if_pos hp];rfl
   ·have hne:¬(u.takeWhile aG=[]/\r.takeWhile aG=[]):=λ h=>hp h.2;rw[if_neg (by rintro(h|⟨-,h⟩);exact hne ⟨(List.append_eq_nil_iff.1 h).1,(List.append_eq_nil_iff.1 h).2⟩;exact hp h),if_neg hp];exact key n (u.takeWhile aG) (r.takeWhile aG) (r.dropWhile aG) hne
  ·simp only[if_neg h46,List.append_nil,Bool.false_eq_true,false_and,or_false];by_cases hw:u.takeWhile aG=[]
   ·rw[if_pos hw,hw,if_pos (none_ n (c::r))]
   ·rw[if_neg hw];have:=key n (u.takeWhile aG) [] (c::r) (λ h=>hw h.1);rw[List.append_nil]at this;exact this
section
variable {f : Task → Option Out}
theorem D1{t:Task}{a b c d e:D}{cs:List V}{fl fl':Fl}{m:Nat}{dv:D}{K:List V->List D->Tr}(h:f t=some (.d (.g [a,b,c,d,e]),[.cells cs fl]))(hm:cs.length=m)(hf:(fl==fl')=true)
  (h1:([V.d a,V.d b,V.d c,V.d d,V.d e].all V.one)=true):
  aC f (.call t λ o=>ee o.snd λ x l2=>dx x λ c g=>aH (c.length==m) (aH (g==fl') (iK l2 (bm o.fst λ d=>jM 5 d λ l=>
   aH ([V.d (l.getD 0 dv),V.d (l.getD 1 dv),V.d (l.getD 2 dv),V.d (l.getD 3 dv),V.d (l.getD 4 dv)].all V.one) (K c l)))))=aC f (K cs [a,b,c,d,e]):=by
 rw[cp h];show aC f (aH (cs.length==m) (aH (fl==fl') (aH true (aH ([V.d a,V.d b,V.d c,V.d d,V.d e].all V.one) (K cs [a,b,c,d,e])))))=_;rw[hm,beq_self_eq_true,aN,hf,aN,aN,h1,aN]
end
def oA(s:mP)(i:Nat)(m w:Int)(at_:Nat):Ob:=
 if m≠0 then aW s (i:Int) m (at_:Int)else if r7 s i=true then aW s (i:Int) 2 (i:Int)else aW s (i:Int) 0 w
def gR(s:mP)(a:Nat)(w:Int)(r:KH)(o:Option Out):Prop:=
 match r with
 | .inr (e,w')=>e≠0/\∃(x:Int) (T:Tok),o=some (.d T.D,[aW s x e (w':Int)])
 | .inl (t,n)=>o=some (.d t.D,[aW s ((a+n:Nat):Int) 0 w])
theorem rS(s:mP)(a n:Nat)(w:Int)(T:Tok):gR s a w (oB (s.drop a) n a T) (some (.d T.D,[oA s (a+n) 0 w a])):=by
 have h0:¬((0:Int)≠0):=by decide
 rw[M6];unfold oA;rw[if_neg h0]
 cases h:r7 s (a+n) with
 |true=>exact⟨by decide,_,_,rfl⟩
 |false=>rfl
theorem lB(s:mP)(a x:Nat)(m w:Int)(hm:m≠0)(T:Tok):gR s a w (.inr (m,a)) (some (.d T.D,[oA s x m w a])):=by unfold oA;rw[if_pos hm];exact⟨hm,_,_,rfl⟩
theorem Ak(s:mP)(i:Nat)(hi:i<=s.length)(T:Tok)(m w:Int):
  rk prog aF (.call 151 [V.p 0 0,V.d T.D,vi m] [aW s (i:Int) 0 w])=some (.d T.D,[oA s i m w T.at_]):=by
 unfold oA;by_cases hm:m≠0
 ·have hf:=lL s (i:Int) 0 w m (T.at_:Int);rw[if_pos hm];unfold Tok.D aW at *;rw[Ti,ep hm,cr hf (by rfl) (by rfl),aD]
 ·have hm0:m=0:=by omega
  have hf:=lL s (i:Int) 0 w 2 (i:Int);rw[if_neg hm];have two:∀b:Bool,rk prog aF (.at_ 151 1 (fw 61) (L1 b) []
    [Ob.cells (nE 0 [] 0 0 0) [],
     Ob.cells (nE (T.kind:Int) T.text T.n (T.d:Int) (T.at_:Int)) [],aW s (i:Int) 0 w])=
    some (.d T.D,[if b=true then aW s (i:Int) 2 (i:Int)else aW s (i:Int) 0 w]):=by
   intro b;unfold Tok.D aW at *;rw[K4]
   cases b with
   |true=>rw[bF,cr hf (by rfl) (by rfl),aD,if_pos rfl]
   |false=>rw[bo,aD,if_neg (by decide)]
  have h:=two (r7 s i);rw[<-h];unfold r7;rcases Nat.lt_or_ge i s.length with hlt|hge
  ·obtain⟨c,hd,hg⟩:=drop_at hlt;have sq:((c.toNat:Int)==46)=(c==46):=cd c 46;rw[hd,List.getD_cons_zero];unfold Tok.D aW at *;rw[Ti,dN hm0,bz,aR hg,dH (Cd c)]
   cases hl:jK c with
   |true=>rw[bF,aA];rfl
   |false=>rw[bo,aR hg,aA,sq];rfl
  ·rw[List.drop_eq_nil_of_le hge];unfold Tok.D aW at *;rw[Ti,dN hm0,bn,aA];rfl
def oK:mP->Bool
 | []=>false
 |c::r=>(c==46&&(r.isEmpty||r.head?==some 46))||oK r
theorem wX:∀t:mP,oK t=true↔(t.getLast?=some 46\/og t=true)
 | []=>by simp[oK,og]
 | [c]=>by simp[oK,og]
 |c::d::r=>by
  have ih:=wX (d::r);unfold oK og;rw[Bool.or_eq_true,ih,Bool.or_eq_true,List.getLast?_cons_cons];simp only[List.isEmpty_cons,Bool.false_or];constructor
  ·rintro(h|h|h)
   ·exact Or.inr (Or.inl h)
   ·exact Or.inl h
   ·exact Or.inr (Or.inr h)
  ·rintro(h|h|h)
   ·exact Or.inr (Or.inl h)
   ·exact Or.inl h
   ·exact Or.inr (Or.inr h)
def dU:Ob := .cells (nE 0 [] 0 0 0) []
theorem ur(s t:mP)(ht:t.length<=4000)(a:Nat)(x w:Int):∀(m i:Nat) (e w':Int),i+m=t.length->
  rk prog aF (.at_ 97 1 (fw 351) (Lt (a:Int) t (i:Int)) [] [dU,aW s x e w'])=
   some (.d (Tok.D ⟨1,t,0,0,a⟩),[aW s x (if oK (t.drop i)=true then 2 else e) (if oK (t.drop i)=true then(a:Int)else w')])
 |0,i,e,w',h=>by
  unfold dU aW Tok.D;rw[ve,bn,aD,List.drop_eq_nil_of_le (by omega)];rfl
 |m+1,i,e,w',h=>by
  obtain⟨c,hd,hg⟩:=drop_at (show i<t.length by omega);have w1:=Wv i;have w2:i64.wrap ((t.length:Int)-1)=((t.length-1:Nat):Int):=U5;have sq:((c.toNat:Int)==46)=(c==46):=cd c 46;have ih0:=ur s t ht a x w m (i+1) e w' (by omega);have ih1:=ur s t ht a x w m (i+1) 2 (a:Int) (by omega);have hf:=lL s x e w' 2 (a:Int);have step:∀b:Bool,rk prog aF (.at_ 97 1 (fw 12895)
    (H4 (a:Int) t (i:Int) b) [] [dU,aW s x e w'])=
    some (.d (Tok.D ⟨1,t,0,0,a⟩),[aW s x (if (b||oK (t.drop (i+1)))=true then 2 else e) (if (b||oK (t.drop (i+1)))=true then(a:Int)else w')]):=by
   intro b
   cases b with
   |false=>
    rw[Bool.false_or,<-ih0];unfold dU aW;rw[qw,bo,w1,aA]
   |true=>
    have:some ((V.d (Tok.D ⟨1,t,0,0,a⟩)),[aW s x 2 (a:Int)])=some ((V.d (Tok.D ⟨1,t,0,0,a⟩)),[aW s x (if oK (t.drop (i+1))=true then 2 else 2) (if oK (t.drop (i+1))=true then(a:Int) else(a:Int))]):=by split<;>rfl
    rw[Bool.true_or,if_pos rfl,if_pos rfl,this,<-ih1];unfold dU aW at *;rw[qw,bF,cr hf (by rfl) (by rfl),w1,aA]
  rw[hd];have hb:oK (c::t.drop (i+1))=((c==46&&((t.drop (i+1)).isEmpty||(t.drop (i+1)).head?==some 46))||oK (t.drop (i+1))):=rfl;rw[hb,<-step];unfold dU aW;rw[ve,bz,aR hg,sq]
  cases h46:(c==46) with
  |false=>rw[bo,aA];rfl
  |true=>
   rw[bF,w2];by_cases hlast:i+1=t.length
   ·rw[bK,aA,List.drop_eq_nil_of_le (by omega)]
    rfl
   ·obtain⟨d,hd2,hg2⟩:=drop_at (show i+1<t.length by omega)
    have e46d:((d.toNat:Int)==46)=(d==46):=cd d 46;have e46o:(some d==some (46:UInt8))=(d==46):=by rw[Bool.eq_iff_iff,beq_iff_eq,beq_iff_eq];exact⟨λ h=>Option.some.inj h,λ h=>by rw[h]⟩
    rw[bu,w1,aR hg2,aA,e46d,hd2];show _=rk prog aF (.at_ 97 1 _ (H4 (a:Int) t (i:Int) (some d==some 46)) [] _);rw[e46o]
theorem A6(s:mP)(hs:s.length<=10000)(a:Nat)(w:Int):∀(m i:Nat),i+m=s.length->
  rk prog aF (.at_ 97 1 (fw 19) (IH (a:Int)) [] [dU,aW s (i:Int) 0 w])=
   rk prog aF (.at_ 97 1 (fw 195) (yK (a:Int) false) [] [dU,aW s ((i+((s.drop i).takeWhile dC).length:Nat):Int) 0 w])
 |0,i,h=>by
  unfold dU aW;rw[D3,bn,aA,List.drop_eq_nil_of_le (by omega)];rfl
 |m+1,i,h=>by
  obtain⟨c,hd,hg⟩:=drop_at (show i<s.length by omega);have ih:=A6 s hs a w m (i+1) (by omega);have w1:=Wv i;have sq:((c.toNat:Int)==46)=(c==46):=cd c 46;have go:rk prog aF (.at_ 97 1 (fw 19) (IH (a:Int)) [] [dU,aW s (i:Int) 0 w])=
    rk prog aF (.at_ 97 1 (fw 195) (yK (a:Int) (dC c)) [] [dU,aW s (i:Int) 0 w]):=by
   unfold dU aW dC;rw[D3,bz,aR hg,dH (Cd c)]
   cases hl:jK c with
   |true=>rw[bF,aA];rfl
   |false=>
    rw[bo,aR hg,dH (oO c)]
    cases hd:aG c with
    |true=>rw[bF,aA];rfl
    |false=>rw[bo,aR hg,aA,sq];rfl
  rw[go,hd,List.takeWhile_cons]
  cases hn:dC c with
  |false=>rw[if_neg (by decide)];rfl
  |true=>
   rw[if_pos rfl,List.length_cons,show i+(((s.drop (i+1)).takeWhile dC).length+1)=i+1+((s.drop (i+1)).takeWhile dC).length by omega,<-ih];unfold dU aW;rw[tU,bF,w1,aA]
theorem QD(s:mP)(hs:s.length<=4000)(a:Nat)(ha:a<=s.length)(w:Int):gR s a w (qA (s.drop a) a) (rk prog aF (.call 97 [V.p 0 0] [aW s (a:Int) 0 w])):=by
 have hL:=A6 s (by omega) a w (s.length-a) a (by omega);have hself:=jg (s.drop a) dC;have hle:=gB (s.drop a) dC;rw[List.length_drop]at hle;have go:rk prog aF (.call 97 [V.p 0 0] [aW s (a:Int) 0 w])=rk prog aF (.at_ 97 1 (fw 19) (IH (a:Int)) [] [dU,aW s (a:Int) 0 w]):=by unfold dU aW;rw[XY,aA]
 have htk:List.take ((((a+((s.drop a).takeWhile dC).length:Nat):Int)).toNat-(a:Int).toNat) (List.drop (a:Int).toNat s)=(s.drop a).takeWhile dC:=by rw[Int.toNat_natCast,Int.toNat_natCast,Nat.add_sub_cancel_left,<-hself]
 rw[go,hL];unfold qA;simp only;generalize (s.drop a).takeWhile dC=t at *;have hf:=lL s ((a+t.length:Nat):Int) 0 w 4 (a:Int);have hD:=ur s t (by omega) a ((a+t.length:Nat):Int) w t.length 0 0 w (by omega);rw[List.drop_zero]at hD;by_cases h1:120<t.length
 ·rw[if_pos h1];refine⟨by decide,((a+t.length:Nat):Int),⟨0,[],0,0,0⟩,?_⟩;unfold dU aW at *;rw[tU,bo,aJ,aJ,htk,bz,cr hf (by rfl) (by rfl),aD];rfl
 ·rw[if_neg h1];have go2:rk prog aF (.at_ 97 1 (fw 195) (yK (a:Int) false) [] [dU,aW s ((a+t.length:Nat):Int) 0 w])=
    some (.d (Tok.D ⟨1,t,0,0,a⟩),[aW s ((a+t.length:Nat):Int) (if oK t=true then 2 else 0) (if oK t=true then(a:Int)else w)]):=by
   rw[<-hD];unfold dU aW;rw[tU,bo,aJ,aJ,htk,bn,aA];rfl
  rw[go2];by_cases h2:t.getLast?=some 46\/og t=true
  ·rw[if_pos h2,(wX t).2 h2];exact⟨by decide,_,_,rfl⟩
  ·rw[if_neg h2];have hb:oK t=false:=by
    cases e:oK t with
    |false=>rfl
    |true=>exact absurd ((wX t).1 e) h2
   rw[hb];rfl
theorem WV(y d:Nat)(hd:d<16)(hy:16*y<18446744073709551616):u64.wrap ((BitVec.ofInt u64.bits ((16*y:Nat):Int) ||| BitVec.ofInt u64.bits ((d:Nat):Int)).toNat:Int)=((16*y+d:Nat):Int):=by
 have h1:2^4*y+d=2^4*y ||| d:=Nat.two_pow_add_eq_or_of_lt (by omega) y
 have e64:u64.bits=64:=rfl;rw[e64,BitVec.toNat_or,BitVec.ofInt_natCast,BitVec.ofInt_natCast,BitVec.toNat_ofNat,BitVec.toNat_ofNat,Nat.mod_eq_of_lt (by omega),Nat.mod_eq_of_lt (by omega),show 16*y=2^4*y by omega,<-h1,aT];omega
def AP(v:Nat)(l:mP):Nat:=l.foldl (λ a c=>a*16%18446744073709551616+cG c) v
theorem vB:∀(l:mP) (k v:Nat),v<16^k->k+l.length<=16->(∀c∈l,dV c=true)->AP v l=l.foldl (λ a c=>a*16+cG c) v
 | [],_,_,_,_,_=>rfl
 |c::l,k,v,hv,hk,hd=>by
  rw[List.length_cons]at hk;have hx:=uf c (hd c (by simp));have h15:16^k<=16^15:=Nat.pow_le_pow_right (by decide) (by omega);have hv1:v<1152921504606846976:=Nat.lt_of_lt_of_le hv (Nat.le_trans h15 (by decide));have hm:v*16%18446744073709551616=v*16:=Nat.mod_eq_of_lt (by omega);have hn:v*16+cG c<16^(k+1):=by rw[Nat.pow_succ];omega
  have ih:=vB l (k+1) (v*16+cG c) hn (by omega) (λ c h=>hd c (by simp[h]));show AP (v*16%18446744073709551616+cG c) l=l.foldl (λ a c=>a*16+cG c) (v*16+cG c);rw[hm,ih]
theorem F6(s:mP)(hs:s.length<=10000)(f0 a:Nat)(w:Int):∀(m i v:Nat),i+m=s.length->v<18446744073709551616->
  rk prog aF (.at_ 146 1 (fw 159) (Lf (f0:Int) (v:Int)) []
   [Ob.cells (nE 2 [] 0 0 (a:Int)) [],dU,aW s (i:Int) 0 w])=
  rk prog aF (.at_ 146 1 (fw 1567) (H3 (f0:Int) ((AP v ((s.drop i).takeWhile dV):Nat):Int) false) []
   [Ob.cells (nE 2 [] 0 0 (a:Int)) [],dU,aW s ((i+((s.drop i).takeWhile dV).length:Nat):Int) 0 w])
 |0,i,v,h,hv=>by
  unfold dU aW;rw[qZ,bn,aA,List.drop_eq_nil_of_le (by omega)];rfl
 |m+1,i,v,h,hv=>by
  obtain⟨c,hd,hg⟩:=drop_at (show i<s.length by omega);have w1:=Wv i;have hx:=Nv c;rw[hd,List.takeWhile_cons]
  cases hc:dV c with
  |false=>
   rw[hc]at hx;rw[if_neg (by decide)];unfold dU aW;rw[qZ,bz,aR hg,ed hx,aA];rfl
  |true=>
   rw[hc,if_pos rfl]at hx;have hlt:=uf c hc;have e1:v*16%18446744073709551616=16*(v%1152921504606846976):=by omega
   have ih:=F6 s hs f0 a w m (i+1) (v*16%18446744073709551616+cG c) (by omega) (by omega);have wv:u64.wrap ((v:Int)*16)=((16*(v%1152921504606846976):Nat):Int):=by rw[aT];omega
   have wd:u64.wrap ((cG c:Nat):Int)=((cG c:Nat):Int):=by rw[aT];omega
   have wo:=WV (v%1152921504606846976) (cG c) hlt (by omega);rw[if_pos rfl,List.length_cons,show i+(((s.drop (i+1)).takeWhile dV).length+1)=i+1+((s.drop (i+1)).takeWhile dV).length by omega];show _=rk prog aF (.at_ 146 1 _ (H3 (f0:Int) ((AP (v*16%18446744073709551616+cG c) ((s.drop (i+1)).takeWhile dV):Nat):Int) false) [] _);rw[<-ih,e1];unfold dU aW;rw[qZ,bz,aR hg,ed hx,aA,decide_eq_true (Int.natCast_nonneg _),lM,bF,aR hg,ed hx,wv,wd,wo,w1,aA]
theorem G4(s:mP)(hs:s.length<=4000)(a:Nat)(ha:a+2<=s.length)(w:Int):gR s a w (v8 (s.drop a) a) (rk prog aF (.call 146 [V.p 0 0] [aW s (a:Int) 0 w])):=by
 have hL:=F6 s (by omega) (a+2) a w (s.length-(a+2)) (a+2) 0 (by omega) (by decide);have hle:=gB (s.drop (a+2)) dV;have hall:=tt dV (s.drop (a+2));rw[List.length_drop]at hle;have w2:i64.wrap ((a:Int)+2)=((a+2:Nat):Int):=U5;have go:rk prog aF (.call 146 [V.p 0 0] [aW s (a:Int) 0 w])=
   rk prog aF (.at_ 146 1 (fw 159) (Lf ((a+2:Nat):Int) ((0:Nat):Int)) []
    [Ob.cells (nE 2 [] 0 0 (a:Int)) [],dU,aW s ((a+2:Nat):Int) 0 w]):=by
  unfold dU aW;rw[Wq,w2,aA];rfl
 rw[go,hL];unfold v8;rw[List.drop_drop];simp only;generalize (s.drop (a+2)).takeWhile dV=h at *;have wl:i64.wrap (((a+2+h.length:Nat):Int)-((a+2:Nat):Int))=(h.length:Int):=U5;have fin:∀(V0:Nat) (er:Int),rk prog aF (.at_ 146 1 (fw 511) (Lg (V0:Int) er) []
   [Ob.cells (nE 2 [] 0 0 (a:Int)) [],dU,aW s ((a+2+h.length:Nat):Int) 0 w])=
   some (.d (Tok.D ⟨2,[],i64.wrap (V0:Int),0,a⟩),[oA s (a+2+h.length) er w a]):=by
  intro V0 er;have hb:rk prog aF (.call 151 [V.p 0 0,V.d (D.g [D.i .i64 2,D.s [],D.i .i64 (i64.wrap (V0:Int)),D.i .u64 0,D.i .i64 (a:Int)]),vi er] [aW s ((a+2+h.length:Nat):Int) 0 w])=
    some (.d (D.g [D.i .i64 2,D.s [],D.i .i64 (i64.wrap (V0:Int)),D.i .u64 0,D.i .i64 (a:Int)]),[oA s (a+2+h.length) er w a]):=Ak s (a+2+h.length) (by omega) ⟨2,[],i64.wrap (V0:Int),0,a⟩ er w
  have hcs:∃cs,oA s (a+2+h.length) er w a = .cells cs []/\cs.length=4:=by
   unfold oA aW;split
   ·exact⟨_,rfl,rfl⟩
   ·split
    ·exact⟨_,rfl,rfl⟩
    ·exact⟨_,rfl,rfl⟩
  obtain⟨cs,hcs,hl⟩:=hcs;rw[hcs]at hb⊢;unfold dU;unfold aW at *;rw[G5,D1 hb hl (by rfl) (by rfl),aD];rfl
 have out:∀(V0:Nat) (er:Int),er=(if 16<h.length then 4 else if 9223372036854775807<V0 then 5 else 0)->
   rk prog aF (.at_ 146 1 (fw 1567) (H3 ((a+2:Nat):Int) (V0:Int) false) []
    [Ob.cells (nE 2 [] 0 0 (a:Int)) [],dU,aW s ((a+2+h.length:Nat):Int) 0 w])=
   some (.d (Tok.D ⟨2,[],i64.wrap (V0:Int),0,a⟩),[oA s (a+2+h.length) er w a]):=by
  intro V0 er he;rw[<-fin V0 er];subst he;by_cases h16:16<h.length
  ·rw[if_pos h16];unfold dU aW;rw[lM,bo,wl,bz,aA]
  ·rw[if_neg h16];by_cases h63:9223372036854775807<V0
   ·rw[if_pos h63];unfold dU aW;rw[lM,bo,wl,bn,bz,aA]
   ·rw[if_neg h63];unfold dU aW;rw[lM,bo,wl,bn,bn,aA]
 by_cases h16:16<h.length
 ·rw[if_pos h16,out (AP 0 h) 4 (if_pos h16).symm];exact lB s a _ 4 w (by decide) _
 ·rw[if_neg h16];have hsm:AP 0 h=iP h:=vB h 0 0 (by decide) (by omega) (λ c hc=>List.all_eq_true.1 hall c hc);rw[hsm];by_cases h63:2^63<=iP h
  ·rw[if_pos h63,out (iP h) 5 (by rw[if_neg h16,if_pos (by omega)])]
   exact lB s a _ 5 w (by decide) _
  ·have hw:i64.wrap ((iP h:Nat):Int)=((iP h:Nat):Int):=U5;rw[if_neg h63,out (iP h) 0 (by rw[if_neg h16,UM]),hw,Nat.add_assoc];exact rS s a (2+h.length) w _
def Gm(r:Int×Bool):Option Out:=some (if r.2=true then .t [.d (.i .i64 r.1),.d (.i .i64 0)]else .t [.d (.i .i64 0),.d (.i .i64 5)],[])
theorem Kz(v:Nat):eD false v=((v:Int),decide (v<2^63)):=rfl
theorem KA(v:Nat):eD true v=(-(v:Int),decide (v<=2^63)):=rfl
theorem PB{n:Int}{b:Bool}(h:b=true):Gm (n,b)=some (.t [.d (.i .i64 n),.d (.i .i64 0)],[]):=by subst h;rfl
theorem IF{n:Int}{b:Bool}(h:b=false):Gm (n,b)=some (.t [.d (.i .i64 0),.d (.i .i64 5)],[]):=by subst h;rfl
theorem Ap(neg:Bool):∀(r p:mP) (v:Nat),(∀c∈r,aG c=true)->(p++r).length<=4000->v<=9223372036854775808->
  rk prog aF (.at_ 149 0 (fw 351) (I2 (p++r) neg (v:Int) (p.length:Int)) [] [])=Gm (eD neg (gZ v r))
 | [],p,v,hd,hl,hv=>by
  rw[List.append_nil,xm,bn];show _=Gm (eD neg v)
  cases neg with
  |false=>
   rw[iI,aA,xn,Kz];by_cases h:v<2^63
   ·rw[decide_eq_false (by omega),bo,bo,aD,PB (decide_eq_true h),Ww]
   ·rw[decide_eq_true (by omega),bF,aD,IF (decide_eq_false h)]
  |true=>
   rw[jF,aA,xn,bo,bF,aD,KA,PB (decide_eq_true (by omega))];have e:i64.wrap (i64.wrap (0-i64.wrap (u64.wrap ((v:Int)-1)))-1) = -(v:Int):=by
    rcases Nat.eq_zero_or_pos v with h0|h0
    ·subst h0;rfl
    ·have w1:u64.wrap ((v:Int)-1)=(v:Int)-1:=by rw[aT];omega
     rw[w1,wrap_i64 (n:=(v:Int)-1) (by omega) (by omega),wrap_i64 (n:=0-((v:Int)-1)) (by omega) (by omega),Ww];omega
   rw[e]
 |c::r,p,v,hd,hl,hv=>by
  have hc:=hd c (by simp);have hcl:=nD hc;have hi:p.length<(p++c::r).length:=by simp
  have g:bJ (p++c::r) (p.length:Int)=some c:=by rw[bQ];simp
  have hpl:(p++[c]).length=p.length+1:=by simp
  have hlen:p.length+(r.length+1)<=4000:=by simpa using hl
  have w0:u64.wrap ((cw c:Nat):Int)=((cw c:Nat):Int):=by rw[aT];omega
  have w1:u64.wrap (9223372036854775808-((cw c:Nat):Int))=((9223372036854775808-cw c:Nat):Int):=by rw[aT];omega
  have wt:(((9223372036854775808-cw c:Nat):Int)).tdiv 10=(((9223372036854775808-cw c) / 10:Nat):Int):=by rw[Int.tdiv_eq_ediv_of_nonneg (by omega)];rfl
  have w2:u64.wrap ((((9223372036854775808-cw c) / 10:Nat):Int))=(((9223372036854775808-cw c) / 10:Nat):Int):=by rw[aT];omega
  have hnum:gZ v (c::r)=gZ (v*10+cw c) r:=rfl;rw[xm,bz,aR g,rP hc,w0,w1,wt,w2,hnum];by_cases h:(9223372036854775808-cw c) / 10<v
  ·have hbig:2^63<gZ (v*10+cw c) r:=by have h1:=JK r (v*10+cw c);have h2:(v*10+cw c)*1<=(v*10+cw c)*10^r.length:=Nat.mul_le_mul_left _ (Nat.pos_of_ne_zero (by simp));omega
   rw[bz,aD]
   cases neg with
   |true=>rw[KA,IF (decide_eq_false (by omega))]
   |false=>rw[Kz,IF (decide_eq_false (by omega))]
  ·have w3:u64.wrap ((v:Int)*10)=((v*10:Nat):Int):=by rw[aT];omega
   have w4:u64.wrap (((v*10:Nat):Int)+((cw c:Nat):Int))=((v*10+cw c:Nat):Int):=by rw[aT];omega
   have w5:=Wv p.length;have ih:=Ap neg r (p++[c]) (v*10+cw c) (λ c h=>hd c (by simp[h])) (by simpa using hl) (by omega);rw[List.append_assoc,List.singleton_append,hpl]at ih;rw[bn,w3,w4,w5,aA,ih]
theorem Tg(sg ds:mP)(hsg:sg=[]\/sg=[43]\/sg=[45])(hds:∀c∈ds,aG c=true)(hne:sg++ds≠[])(hl:(sg++ds).length<=4000):
  rk prog aF (.call 149 [vs (sg++ds)] [])=if 60<ds.length then some (.t [.d (.i .i64 0),.d (.i .i64 4)],[])else Gm (eD ((sg++ds).head?==some 45) (cI ds)):=by
 have hL:=λ neg=>Ap neg ds [] 0 hds (by simp at hl⊢;omega) (by decide);have hcut:∀c:UInt8,List.take ((c::ds).length-1) (List.drop 1 (c::ds))=ds:=by intro c;simp
 have fin:∀neg:Bool,aC (rk prog aF) (aM (decide ((ds.length:Int)>60)) (Tr.ret (V.t [vi 0,vi 4],[]))
   (Tr.call (.at_ 149 0 (fw 351) (I2 ds neg 0 0) [] []) Tr.ret))=
   if 60<ds.length then some (.t [.d (.i .i64 0),.d (.i .i64 4)],[])else Gm (eD neg (cI ds)):=by
  intro neg;by_cases h:60<ds.length
  ·rw[bz,aD,if_pos h]
  ·rw[bn,aA,if_neg h];exact hL neg
 rcases hsg with rfl|rfl|rfl
 ·rw[List.nil_append];rw[List.nil_append]at hne
  cases hds':ds with
  |nil=>exact absurd hds' hne
  |cons c q=>
   have hc:=hds c (by rw[hds'];simp);have h43:(c==43)=false:=beq_eq_false_iff_ne.2 λ e=>by rw[e]at hc;exact absurd hc (by decide)
   have h45:(c==45)=false:=beq_eq_false_iff_ne.2 λ e=>by rw[e]at hc;exact absurd hc (by decide)
   have g:bJ (c::q) 0=some c:=rfl;have Dv:((c.toNat:Int)==45)=(c==45):=cd c 45;have e43:((c.toNat:Int)==43)=(c==43):=cd c 43;have hh:((c::q).head?==some 45)=false:=by show (some c==some 45)=false;exact beq_eq_false_iff_ne.2 λ e=>by injection e with e;rw[e]at h45;simp at h45
   have:=fin false;rw[hds']at this;rw[Th,aR g,Dv,h45,bo,aR g,e43,h43,aA,tT,bo,hh];exact this
 ·have g:bJ ([43]++ds) 0=some 43:=rfl;rw[Th,aR g,show (((43:UInt8).toNat:Int)==45)=false from rfl,bo,aR g,show (((43:UInt8).toNat:Int)==43)=true from rfl,aA,tT,bF,List.singleton_append,hcut,aJ (by rw[List.length_cons];omega)];exact fin false
 ·have g:bJ ([45]++ds) 0=some 45:=rfl;rw[Th,aR g,show (((45:UInt8).toNat:Int)==45)=true from rfl,bF,aA,tT,bF,List.singleton_append,hcut,aJ (by rw[List.length_cons];omega)];exact fin true
end Go.Dn.Dec
