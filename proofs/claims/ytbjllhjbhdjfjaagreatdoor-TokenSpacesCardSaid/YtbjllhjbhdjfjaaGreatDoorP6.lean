/-
 DERIVED: THE SHELF's CONTRACTS AT THIS DUMP, IN PLAIN WORDS (tools/lay-plain.mjs out of 'ZpSs.lean', which tools/lay-shelf.mjs wrote): THE SAME DECLARATIONS UNDER THE SAME NAMES: 'import', 'namespace', 'open', 'def', 'theorem' AND NOTHING ELSE: no command of the shelf's: FOR A HAND-IN. Each laying: the table of numbers ('.._ren') and one theorem, a field a fact of the dump's own or the kernel's comparison; each contract: ONE APPLICATION.
-/
import Derived.Shelf.Strings.Builder1
import Derived.Shelf.Strings.Builder2
import Derived.Shelf.Strings.OnBuilder
import Derived.Shelf.Strconv.Itoa0
import Derived.Shelf.Strconv.Itoa1
import Derived.Shelf.LaysM
import Derived.Shelf.Strconv.Itoa2
import Derived.Shelf.Strconv.Itoa3
import Derived.Shelf.Strconv.Itoa4
import Derived.Shelf.LaysC
import Derived.Shelf.Strconv.ToError
import Derived.Shelf.Strconv.ToErrorRange
import Derived.Shelf.Strings.BuilderCap
import Derived.Test.YtbjllhjbhdjfjaaGreatDoorProg
import Derived.Test.YtbjllhjbhdjfjaaGreatDoorP5
import Derived.Lib.Builder
import Derived.Lib.UnsafeStr
import Derived.Test.YtbjllhjbhdjfjaaGreatDoorP4
import Derived.KernelRfl
set_option linter.unusedVariables false
set_option linter.unusedSimpArgs false
set_option linter.unusedSectionVars false
namespace Go.Proofs
open Go.Shelf
end Go.Proofs
namespace Go.Proofs
open Go.Shelf Go.RowKit
set_option maxRecDepth 100000
end Go.Proofs
namespace Go.Dn.Dec
open Go.Proofs Go.Shelf Go.RowKit
set_option maxRecDepth 100000
end Go.Dn.Dec
namespace Go.Dn.Dec
open Go.Proofs
set_option exponentiation.threshold 5000000
def nG(b:Nat):Nat×Nat:=
 let q:=if b / 2^52=0 then b%2^52 else b%2^52+2^52
 let e:Int:=if b / 2^52=0 then -1074 else -1074+((b / 2^52:Nat)-1)
 if e<0 then(q,2^(-e).toNat) else(q*2^e.toNat,1)
def cS(x y:Nat)(n:Int):Bool:=if n<0 then decide (x*10^(-n).toNat<y)else decide (x<y*10^n.toNat)
def gu(x y:Nat)(n:Int):Nat:=if n<0 then cI (x*10^(-n).toNat) y else cI x (y*10^n.toNat)
def kN(x y:Nat):Nat->Int
 |0=>-400
 |k+1=>if cS x y ((k+1:Nat)-400:Int)=true then kN x y k else((k+1:Nat)-400:Int)
def kU(q:Nat):List UInt8:=fM (q%18446744073709551616)
def FP(d:List UInt8):List UInt8:=if trimRightB 48 (d.drop 1)=[]then [48]else trimRightB 48 (d.drop 1)
def im(out d:List UInt8)(n:Int):List UInt8:=out++d.take 1++[46]++FP d++[101]++js n
def vA(out:List UInt8)(x y:Nat):List UInt8:=
 let n:=kN x y ((((bd x:Int)-bd y)*30103).tdiv 100000+401).toNat
 if 17<(kU (gu x y (n-16))).length then im out (kU (gu x y (n+1-16))) (n+1)else im out (kU (gu x y (n-16))) n
def qC(b:Nat):List UInt8:=
 if b / 2^52%2048=2047 then []
 else
  let out:List UInt8:=if 2^63<=b then [45]else []
  if b%2^63=0 then out++[48,46,48,101,48]else vA out (nG (b%2^63)).1 (nG (b%2^63)).2
theorem G7(n:Nat):fM n≠[]:=by
 rw[kf];split<;>simp
theorem iB:∀(k n:Nat),0<k->n<10^k->(fM n).length<=k
 |0,_,h,_=>by omega
 |k+1,n,_,h=>by
  rw[kf]
  split
  ·simp
  ·rename_i h9
   rw[List.length_append,List.length_singleton]
   have hk:0<k:=by
    rcases Nat.eq_zero_or_pos k with rfl|h'
    ·simp at h;omega
    ·exact h'
   have:=iB k (n / 10) hk (by rw[Nat.pow_succ]at h;omega)
   omega
theorem jB{n:Int}(h1:-1000000<n)(h2:n<1000000):(js n).length<=8:=by
 unfold js
 split
 ·have:=iB 7 n.natAbs (by decide) (by simp;omega)
  simp;omega
 ·have:=iB 7 n.toNat (by decide) (by simp;omega)
  omega
theorem D0(c:UInt8)(x:List UInt8):(trimRightB c x).length<=x.length:=by
 unfold trimRightB
 rw[List.length_reverse]
 have:=(List.dropWhile_sublist (· == c) (l:=x.reverse)).length_le
 simpa using this
def qP(n:Nat):Prop:=n<2^1100
theorem qP.mul{n k:Nat}(h:qP n)(hk:k<=700):nO (n*10^k):=by
 have h1:(10:Nat)^k<=16^k:=Nat.pow_le_pow_left (by decide) k
 have h2:(16:Nat)^k=2^(4*k):=by rw[show (16:Nat)=2^4 from rfl,<-Nat.pow_mul]
 have h3:n*10^k<2^1100*2^(4*k):=by
  have:n*10^k<=n*2^(4*k):=Nat.mul_le_mul_left _ (h2▸h1)
  exact Nat.lt_of_le_of_lt this (Nat.mul_lt_mul_of_pos_right h (Nat.pow_pos (by decide)))
 rw[<-Nat.pow_add]at h3
 exact eT (Nat.lt_of_lt_of_le h3 (Nat.pow_le_pow_right (by decide) (by omega)))
theorem qP.iX{n:Nat}(h:qP n):nO n:=eT (Nat.lt_of_lt_of_le h (Nat.pow_le_pow_right (by decide) (by decide)))
theorem BC{b k:Nat}(hb:b<18446744073709551616)(c:Int)(hc:(BitVec.ofInt 64 c).toNat=2^k-1):(BitVec.ofInt 64 (b:Int) &&& BitVec.ofInt 64 c).toNat=b%2^k:=by
 rw[BitVec.toNat_and,hc,Nat.and_two_pow_sub_one_eq_mod,BitVec.ofInt_natCast,BitVec.toNat_ofNat,Nat.mod_eq_of_lt (show b<2^64 from hb)]
theorem yV(b:Nat)(hb:b<2^63)(hk:b / 2^52<2047):qP (nG b).1/\qP (nG b).2/\0<(nG b).2:=by
 have hm:b%2^52<2^52:=Nat.mod_lt _ (by decide)
 have main:∀(q:Nat) (e:Int),q<2^53->-1074<=e->e<=971->qP (if e<0 then(q,2^(-e).toNat) else(q*2^e.toNat,1)).1/\qP (if e<0 then(q,2^(-e).toNat) else(q*2^e.toNat,1)).2/\0<(if e<0 then(q,2^(-e).toNat) else(q*2^e.toNat,1)).2:=by
  intro q e hq he1 he2
  split
  ·exact⟨Nat.lt_of_lt_of_le hq (Nat.pow_le_pow_right (by decide) (by decide)),Nat.pow_lt_pow_right (by decide) (by omega),Nat.pow_pos (by decide)⟩
  ·refine⟨?_,Nat.one_lt_two_pow (by decide),Nat.one_pos⟩
   have:q*2^e.toNat<2^53*2^e.toNat:=Nat.mul_lt_mul_of_pos_right hq (Nat.pow_pos (by decide))
   rw[<-Nat.pow_add]at this
   exact Nat.lt_of_lt_of_le this (Nat.pow_le_pow_right (by decide) (by omega))
 unfold nG
 by_cases h0:b / 2^52=0
 ·simp only[if_pos h0]
  exact main _ _ (by omega) (by decide) (by decide)
 ·simp only[if_neg h0]
  exact main _ _ (by omega) (by omega) (by omega)
theorem Gj(q:Nat):(kU q).length<=20/\1<=(kU q).length:=by
 have h1:=iB 20 (q%18446744073709551616) (by decide) (Nat.lt_trans (Nat.mod_lt _ (by decide)) (by decide))
 have h2:kU q≠[]:=G7 _
 exact⟨h1,by cases h:kU q with
  |nil=>exact absurd h h2
  |cons c r=>simp⟩
end Go.Dn.Dec
namespace Go.Dn.Dec
open Go.Proofs
set_option exponentiation.threshold 5000000
theorem yU(b:Nat)(h:b≠0):0<(nG b).1:=by
 have main:∀(q:Nat) (e:Int),0<q->0<(if e<0 then(q,2^(-e).toNat) else(q*2^e.toNat,1)).1:=by
  intro q e hq
  split
  ·exact hq
  ·exact Nat.mul_pos hq (Nat.pow_pos (by decide))
 unfold nG
 by_cases h0:b / 2^52=0
 ·simp only[if_pos h0]
  exact main _ _ (by omega)
 ·simp only[if_neg h0]
  exact main _ _ (by omega)
theorem Jm{x y:Nat}(hx:0<x)(hy:qP y):cS x y (-400)=false:=by
 have h1:(2:Nat)^1100<=2^(3*400):=Nat.pow_le_pow_right (by decide) (by decide)
 have h2:(2:Nat)^(3*400)=8^400:=by rw[Nat.pow_mul]
 have h3:(8:Nat)^400<=10^400:=Nat.pow_le_pow_left (by decide) 400
 have h4:10^400<=x*10^400:=Nat.le_mul_of_pos_left _ hx
 have:y<2^1100:=hy
 have h5:y<10^400:=by omega
 have h6:(-(-400:Int)).toNat=400:=by decide
 have h7:(-400:Int)<0:=by decide
 unfold cS
 rw[if_pos h7,h6]
 exact decide_eq_false (by omega)
theorem qP.bd{n:Nat}(h:qP n):bd n<=1100:=(cf _ _).2 h
theorem qK(a:Int)(h1:-1100<=a)(h2:a<=1100):-340<=(a*30103).tdiv 100000/\(a*30103).tdiv 100000<=340:=by
 rcases Int.le_total 0 a with h|h
 ·rw[Int.tdiv_eq_ediv_of_nonneg (by omega)];omega
 ·have e:a*30103 = -((-a)*30103):=by omega
  rw[e,Int.neg_tdiv,Int.tdiv_eq_ediv_of_nonneg (by omega)];omega
end Go.Dn.Dec
namespace Go.Dn.Dec
def Kl:List (Nat×List (Nat×List Nat)):=
 [(25,[(175,[0,1,5,6,7,8,9]),(14639,[0,1,5,6,7,8,9,10])]),
 (26,[(43,[0,3,4,5]),(3659,[0,3,4,5,6]),(127,[0,3,7,8])]),
 (53,[(43,[0,2,3,9,10,11]),(395,[0,2,3,9,10,11,26]),(3659,[0,2,3,9,10,11,12]),(218699,[0,2,3,9,10,11,12,83]),(7755,[0,2,3,9,10,11,12])]),
 (54,[(43,[0,1,5,6,7])]),
 (55,[(15,[0,1,2,7]),(975,[0,1,2,7,33])]),
 (120,[(53,[0,2,6,7,8]),(1013,[0,2,6,7,29])]),
 (12,[(43,[1,3,13,14,15]),(87,[1,3,26,27,28]),(175,[3,41,42,43])]),
 (13,[(43,[1,3,4]),(87,[1,3,5]),(175,[1,3,6])]),
 (15,[(13,[2,3,32]),(43,[2,3,5]),(87,[2,3,6]),(175,[2,3,7])]),
 (22,[(10741,[1,3]),(352245,[1,4,5]),(13197301,[1,4,5]),(87,[1,6,7]),(3223,[1,6,7])]),
 (23,[(175,[3,4,5])]),
 (27,[(5,[0,6,7,8])]),
 (29,[(11003,[0,41,42,43]),(2043,[0,3,11,54]),(44027,[0,70,71,72]),(61435,[0,3]),(716795,[0,104,105,106])]),
 (31,[(127,[1,4]),(1407,[1,4,5]),(117119,[1,4,5]),(2815,[1,4,6]),(5631,[1,4,7])]),
 (36,[(13,[2,3,68]),(43,[2,3,5]),(87,[2,3,6]),(7319,[2,3,6,138])]),
 (52,[(43,[3,6,7,8])]),
 (58,[(15,[0])]),
 (59,[(15,[1,3]),(31,[1,3])]),
 (60,[(15,[0,3]),(63,[0])]),
 (61,[(15,[1,3]),(31,[1,3])]),
 (62,[(15,[1,3]),(63,[3])]),
 (69,[(13,[2,3,40]),(43,[2,3,5])]),
 (70,[(43,[0,1,5]),(3659,[0,1,5,74])]),
 (32,[(43,[0,1,12,13])]),
 (33,[(43,[0,1,12,13])]),
 (34,[(43,[1,2,15,16,17])]),
 (64,[(43,[1,2,15,16,17])]),
 (66,[(43,[0,1,12,13])]),
 (67,[(43,[1,2,15,16,17])]),
 (124,[(43,[3,6,7,8])]),
 (125,[(43,[0,3,4]),(1611,[0,3,4])]),
 (126,[(43,[1,2,15,16,17])]),
 (3,[(27,[0,1,16])])]
def Ls(k:Nat)(p:List Bool):Option (List Nat):=(Kl.lookup k).bind fun l=>l.lookup (p.foldl (fun n b=>2*n+b.toNat) 1)
def Kh:List (Nat×Nat×Nat×Nat):=[(26,8,4,3),(25,16,4,3),(11,3,4,0),(56,2,6,3)]
def Lm(k r i:Nat):Nat:=((Kh.find? fun x=>x.1==k&&x.2.1==r&&x.2.2.1==i).map (·.2.2.2)).getD 2
def LJ(k r _:Nat):Fl:=match k,r with
 |26,1=>[(9,3)]
 |25,3=>[(11,5)]
 |12,1=>[(1,21000001),(73,2000000)]
 |56,2=>[(5,1000000)]
 |_,_=>[]
def lO(args:List V)(S:List Ob):Option Out:=
 match args,S with
 | [.d (.i .u64 n)],[]=>if 0<=n/\n<18446744073709551616 then some (.d (.s (qC n.toNat)),[])else none
 |_,_=>none
def oY(args:List V)(S:List Ob):Option Out:=
 match args,S with
 | [.d (.i .i64 n)],[]=>if -9223372036854775808<=n/\n<=9223372036854775807 then some (.d (.s (js n)),[])else none
 |_,_=>none
def Kt(k:Nat):Option (List V->List Ob->Option Out):=
 match k with
 |48=>some lO
 |47=>some oY
 |k=>ext k
def bn:Pol:={ cut:=Ls,app:=Lm,uC:=LJ,ext:=Kt,fresh:=fun k=>k==10 }
end Go.Dn.Dec
namespace Go.Dn.Dec
open Go.Proofs
def Kk:List (Nat×List (Nat×List Nat)):=
 [(3,[(27,[0,1,16])]),
 (7,[(111,[1,2,9,33])]),
 (8,[(27,[0,1,24]),(703,[1,5,8,9]),(58559,[1,5,8,9,10]),(910527,[1,5,8,9,66,67]),(1791,[5,11,12,124]),(5631,[5,11,14]),(206335,[5,11,14,182])])]
def Lr(k:Nat)(p:List Bool):Option (List Nat):=(Kk.lookup k).bind fun l=>l.lookup (p.foldl (fun n b=>2*n+b.toNat) 1)
def Kg:List (Nat×Nat×Nat×Nat):=[(7,5,6,1)]
def Ll(k r i:Nat):Nat:=((Kg.find? fun x=>x.1==k&&x.2.1==r&&x.2.2.1==i).map (·.2.2.2)).getD 2
def yj(k:Nat):Bool:=k==18||k==19||k==20||k==21
noncomputable def Hi(k:Nat):Option (List V->List Ob->Option Out):=
 if k<9 then none else if yj k=true then some (fun args S=>run Tryz.prog aE (.call k args S))else some (vL Tryz.prog bn k)
noncomputable def jK:Pol:={ cut:=Lr,app:=Ll,uC:=fun _ _ _=>[],ext:=Hi,fresh:=fun k=>k==10 }
end Go.Dn.Dec
namespace Go.Dn.Dec
open Go.Proofs
theorem MC(k n u:Int)(s:List UInt8)(b:Bool)(l:List D):rk Tryz.prog bn (.call 22 [.d (.g [.i .i64 k,.i .i64 n,.i .u64 u,.s s,.l b l])] [])=aC (rk Tryz.prog bn) (aT (k==1) (cV (.call 47 [vi n] []) fun a=>aS a fun c => .ret (vs c,[])) (aT (k==2) (cV (.call 48 [vu u] []) fun e=>aS e fun f => .ret (vs f,[])) (aT (k==3) (.call (.at_ 22 0 [false,true,false,false,true,true,true,true,true,false,true,false,true] (sv 100 [(1,.p 0 0),(3,vi 0)]) [] [.cells [vi k,vi n,vu u,vs s,vl b l] []]) .ret) (aT (k==4) (.ret (vs s,[])) (aT (k==5) (.call (.at_ 22 0 [false,true,false,true,false,true,true,true,true,true,true,true,true,true,false,true,false,true] (sv 100 [(1,.p 0 0),(4,vs [91]),(5,vi 0)]) [] [.cells [vi k,vi n,vu u,vs s,vl b l] []]) .ret) (.call (.at_ 22 0 [false,true,false,true,true,true] (sv 100 [(1,.p 0 0),(6,vs [123]),(7,vi 0)]) [] [.cells [vi k,vi n,vu u,vs s,vl b l] []]) .ret)))))):=
 aF (by kernel_rfl)
theorem MI(h:Bool)(id r:Int)(t nm:List UInt8)(hi:Bool)(k n u:Int)(s:List UInt8)(b:Bool)(l:List D):rk Tryz.prog bn (.call 61 [.d (.g [.b h,.i .i64 id,.i .i64 r,.s t,.s nm,.b hi,.i .i64 k,.i .i64 n,.i .u64 u,.s s,.l b l])] [])=aC (rk Tryz.prog bn) (aT h (cV (.call 47 [vi id] []) fun a=>aS a fun c=>aM (decide (c.length+2<4611686018427387904)) (.call (.at_ 61 0 [true,true,true] (sv 37 [(1,.p 0 0),(3,vs (c++[58,32]))]) [] [.cells [vb h,vi id,vi r,vs t,vs nm,vb hi,vi k,vi n,vu u,vs s,vl b l] []]) .ret)) (.call (.at_ 61 0 [true,true,true] (sv 37 [(1,.p 0 0),(3,vs [])]) [] [.cells [vb h,vi id,vi r,vs t,vs nm,vb hi,vi k,vi n,vu u,vs s,vl b l] []]) .ret)):=
 aF (by kernel_rfl)
theorem L6(b:Bool)(l:List D):rk Tryz.prog bn (.call 125 [vl b l] [])=aC (rk Tryz.prog bn) (.call (.at_ 125 0 [false,true,false,true,true] (sv 23 [(0,vl b l),(3,vs []),(4,vi 0)]) [] []) .ret):=
 aF (by kernel_rfl)
theorem MJ(nm:List UInt8)(ow:Bool)(ret:List UInt8)(ab:Bool)(al:List D)(tb:Bool)(tl:List D):rk Tryz.prog bn (.call 62 [.d (.g [.s nm,.b ow,.s ret,.l ab al,.l tb tl])] [])=aC (rk Tryz.prog bn) (aT ow (.call (.at_ 62 0 [true,true,true] (sv 35 [(1,.p 0 0),(3,vs [32,32,111,110,101,119,97,121,32])]) [] [.cells [vs nm,vb ow,vs ret,vl ab al,vl tb tl] []]) .ret) (.call (.at_ 62 0 [true,true,true] (sv 35 [(1,.p 0 0),(3,vs [32,32])]) [] [.cells [vs nm,vb ow,vs ret,vl ab al,vl tb tl] []]) .ret)):=
 aF (by kernel_rfl)
theorem MF(kd:Int)(nm ty:List UInt8)(ck cn cu:Int)(cs:List UInt8)(cb:Bool)(cl:List D)(fb:Bool)(fl:List D)(mb:Bool)(ml:List D)(ex:List UInt8)(tb:Bool)(tl:List D):rk Tryz.prog bn (.call 31 [.d (.g [.i .i64 kd,.s nm,.s ty,.i .i64 ck,.i .i64 cn,.i .u64 cu,.s cs,.l cb cl,.l fb fl,.l mb ml,.s ex,.l tb tl])] [])=aC (rk Tryz.prog bn) (eC [.s [],.s [116,121,112,101,100,101,102,32],.s [101,110,117,109,32],.s [99,111,110,115,116,32],.s [115,116,114,117,99,116,32],.s [117,110,105,111,110,32],.s [101,120,99,101,112,116,105,111,110,32],.s [115,101,114,118,105,99,101,32]] kd 1 0 fun a=>fF a fun b=>aT (kd==1) (aM (decide (b.length+ty.length<4611686018427387904)) (aM (decide ((b++ty).length+1<4611686018427387904)) (aM (decide ((b++ty++[32]).length+nm.length<4611686018427387904)) (aM (decide ((b++ty++[32]++nm).length+1<4611686018427387904)) (.ret (vs (b++ty++[32]++nm++[10]),[])))))) (aT (kd==3) (aM (decide (b.length+ty.length<4611686018427387904)) (aM (decide ((b++ty).length+1<4611686018427387904)) (aM (decide ((b++ty++[32]).length+nm.length<4611686018427387904)) (aM (decide ((b++ty++[32]++nm).length+3<4611686018427387904)) (cV (.call 22 [.d (.g [.i .i64 ck,.i .i64 cn,.i .u64 cu,.s cs,.l cb cl])] []) fun c=>aS c fun e=>aM (decide ((b++ty++[32]++nm++[32,61,32]).length+e.length<4611686018427387904)) (aM (decide ((b++ty++[32]++nm++[32,61,32]++e).length+1<4611686018427387904)) (.ret (vs (b++ty++[32]++nm++[32,61,32]++e++[10]),[])))))))) (aM (decide (b.length+nm.length<4611686018427387904)) (aT (!ex==[]) (aM (decide ((b++nm).length+9<4611686018427387904)) (aM (decide ((b++nm++[32,101,120,116,101,110,100,115,32]).length+ex.length<4611686018427387904)) (.call (.at_ 31 0 [true,true,true,true,true,true] (sv 125 [(1,.p 0 0),(4,vs (b++nm++[32,101,120,116,101,110,100,115,32]++ex))]) [] [.cells [vi kd,vs nm,vs ty,vi ck,vi cn,vu cu,vs cs,vl cb cl,vl fb fl,vl mb ml,vs ex,vl tb tl] []]) .ret))) (.call (.at_ 31 0 [true,true,true,true,true,true] (sv 125 [(1,.p 0 0),(4,vs (b++nm))]) [] [.cells [vi kd,vs nm,vs ty,vi ck,vi cn,vu cu,vs cs,vl cb cl,vl fb fl,vl mb ml,vs ex,vl tb tl] []]) .ret))))):=
 aF (by kernel_rfl)
theorem MB(ib:Bool)(il:List D)(sb:Bool)(sl:List D)(db:Bool)(dl:List D):rk Tryz.prog bn (.call 13 [.d (.g [.l ib il,.l sb sl,.l db dl])] [])=aC (rk Tryz.prog bn) (.call (.at_ 13 0 [false,true,false,true,true] (sv 64 [(1,.p 0 0),(3,vs []),(4,vi 0)]) [] [.cells [vl ib il,vl sb sl,vl db dl] []]) .ret):=
 aF (by kernel_rfl)
theorem lS(n_0 n_1 n_2 n_3:Int)(l_4:List UInt8)(b_5:Bool)(l_6:List D):rk Tryz.prog bn (.at_ 22 0 [false,true,false,false,true,true,true,true,true,false,true,false,true] (sv 100 [(1,.p 0 0),(3,vi n_0)]) [] [.cells [vi n_1,vi n_2,vu n_3,vs l_4,vl b_5 l_6] []])=aC (rk Tryz.prog bn) (aT (decide (n_0<(l_4.length:Int))) (ob (bh l_4 n_0) fun a=>aT ((a.toNat:Int)==34) (aM (decide (1+l_4.length<4611686018427387904)) (aM (decide (([39]++l_4).length+1<4611686018427387904)) (.ret (vs ([39]++l_4++[39]),[])))) (.call (.at_ 22 0 [false,true,false,false,true,true,true,true,true,false,true,false,true] (sv 100 [(1,.p 0 0),(3,vi (IntKind.i64.wrap (n_0+1)))]) [] [.cells [vi n_1,vi n_2,vu n_3,vs l_4,vl b_5 l_6] []]) .ret)) (aM (decide (1+l_4.length<4611686018427387904)) (aM (decide (([34]++l_4).length+1<4611686018427387904)) (.ret (vs ([34]++l_4++[34]),[]))))):=
 aF (by kernel_rfl)
theorem pb(l_0:List UInt8)(n_1 n_2 n_3 n_4:Int)(l_5:List UInt8)(b_6:Bool)(l_7:List D):rk Tryz.prog bn (.at_ 22 0 [false,true,false,true,false,true,true,true,true,true,true,true,true,true,false,true,false,true] (sv 100 [(1,.p 0 0),(4,vs l_0),(5,vi n_1)]) [] [.cells [vi n_2,vi n_3,vu n_4,vs l_5,vl b_6 l_7] []])=aC (rk Tryz.prog bn) (aT (decide (n_1<(l_7.length:Int))) (aT (decide (n_1>0)) (aM (decide (l_0.length+2<4611686018427387904)) (.call (.at_ 22 0 [true,false,false,true,false,false,true,false,true,false,true,true,true,true,true,true,true,true,true,false,true,false,true] (sv 100 [(1,.p 0 0),(4,vs (l_0++[44,32])),(5,vi n_1)]) [] [.cells [vi n_2,vi n_3,vu n_4,vs l_5,vl b_6 l_7] []]) .ret)) (.call (.at_ 22 0 [true,false,false,true,false,false,true,false,true,false,true,true,true,true,true,true,true,true,true,false,true,false,true] (sv 100 [(1,.p 0 0),(4,vs l_0),(5,vi n_1)]) [] [.cells [vi n_2,vi n_3,vu n_4,vs l_5,vl b_6 l_7] []]) .ret)) (aM (decide (l_0.length+1<4611686018427387904)) (.ret (vs (l_0++[93]),[])))):=
 aF (by kernel_rfl)
theorem tt(l_0:List UInt8)(n_1 n_2 n_3 n_4:Int)(l_5:List UInt8)(b_6:Bool)(l_7:List D):rk Tryz.prog bn (.at_ 22 0 [false,true,false,true,true,true] (sv 100 [(1,.p 0 0),(6,vs l_0),(7,vi n_1)]) [] [.cells [vi n_2,vi n_3,vu n_4,vs l_5,vl b_6 l_7] []])=aC (rk Tryz.prog bn) (aT (decide (IntKind.i64.wrap (n_1+1)<(l_7.length:Int))) (aT (decide (n_1>0)) (aM (decide (l_0.length+2<4611686018427387904)) (.call (.at_ 22 0 [true,false,false,true,false,false,true,false,true,true,true] (sv 100 [(1,.p 0 0),(6,vs (l_0++[44,32])),(7,vi n_1)]) [] [.cells [vi n_2,vi n_3,vu n_4,vs l_5,vl b_6 l_7] []]) .ret)) (.call (.at_ 22 0 [true,false,false,true,false,false,true,false,true,true,true] (sv 100 [(1,.p 0 0),(6,vs l_0),(7,vi n_1)]) [] [.cells [vi n_2,vi n_3,vu n_4,vs l_5,vl b_6 l_7] []]) .ret)) (aM (decide (l_0.length+1<4611686018427387904)) (.ret (vs (l_0++[125]),[])))):=
 aF (by kernel_rfl)
theorem GB(l_0:List UInt8)(b_1:Bool)(n_2 n_3:Int)(l_4 l_5:List UInt8)(b_6:Bool)(n_7 n_8 n_9:Int)(l_10:List UInt8)(b_11:Bool)(l_12:List D):rk Tryz.prog bn (.at_ 61 0 [true,true,true] (sv 37 [(1,.p 0 0),(3,vs l_0)]) [] [.cells [vb b_1,vi n_2,vi n_3,vs l_4,vs l_5,vb b_6,vi n_7,vi n_8,vu n_9,vs l_10,vl b_11 l_12] []])=aC (rk Tryz.prog bn) (aT (n_3==1) (aM (decide (l_0.length+9<4611686018427387904)) (.call (.at_ 61 0 [true,true,true,true] (sv 37 [(1,.p 0 0),(3,vs (l_0++[114,101,113,117,105,114,101,100,32]))]) [] [.cells [vb b_1,vi n_2,vi n_3,vs l_4,vs l_5,vb b_6,vi n_7,vi n_8,vu n_9,vs l_10,vl b_11 l_12] []]) .ret)) (aT (n_3==2) (aM (decide (l_0.length+9<4611686018427387904)) (.call (.at_ 61 0 [true,true,true,true] (sv 37 [(1,.p 0 0),(3,vs (l_0++[111,112,116,105,111,110,97,108,32]))]) [] [.cells [vb b_1,vi n_2,vi n_3,vs l_4,vs l_5,vb b_6,vi n_7,vi n_8,vu n_9,vs l_10,vl b_11 l_12] []]) .ret)) (.call (.at_ 61 0 [true,true,true,true] (sv 37 [(1,.p 0 0),(3,vs l_0)]) [] [.cells [vb b_1,vi n_2,vi n_3,vs l_4,vs l_5,vb b_6,vi n_7,vi n_8,vu n_9,vs l_10,vl b_11 l_12] []]) .ret))):=
 aF (by kernel_rfl)
theorem vM(b_0:Bool)(l_1:List D)(l_2:List UInt8)(n_3:Int):rk Tryz.prog bn (.at_ 125 0 [false,true,false,true,true] (sv 23 [(0,vl b_0 l_1),(3,vs l_2),(4,vi n_3)]) [] [])=aC (rk Tryz.prog bn) (aT (decide (n_3<(l_1.length:Int))) (aT (decide (n_3>0)) (aM (decide (l_2.length+2<4611686018427387904)) (.call (.at_ 125 0 [true,false,false,true,false,false,true,false,true,true] (sv 23 [(0,vl b_0 l_1),(3,vs (l_2++[44,32])),(4,vi n_3)]) [] []) .ret)) (.call (.at_ 125 0 [true,false,false,true,false,false,true,false,true,true] (sv 23 [(0,vl b_0 l_1),(3,vs l_2),(4,vi n_3)]) [] []) .ret)) (.ret (vs l_2,[]))):=
 aF (by kernel_rfl)
theorem GD(l_0 l_1:List UInt8)(b_2:Bool)(l_3:List UInt8)(b_4:Bool)(l_5:List D)(b_6:Bool)(l_7:List D):rk Tryz.prog bn (.at_ 62 0 [true,true,true] (sv 35 [(1,.p 0 0),(3,vs l_0)]) [] [.cells [vs l_1,vb b_2,vs l_3,vl b_4 l_5,vl b_6 l_7] []])=aC (rk Tryz.prog bn) (aM (decide (l_0.length+l_3.length<4611686018427387904)) (aM (decide ((l_0++l_3).length+1<4611686018427387904)) (aM (decide ((l_0++l_3++[32]).length+l_1.length<4611686018427387904)) (aM (decide ((l_0++l_3++[32]++l_1).length+1<4611686018427387904)) (cV (.call 125 [vl b_4 l_5] []) fun o_0=>aS o_0 fun l_2=>aM (decide ((l_0++l_3++[32]++l_1++[40]).length+l_2.length<4611686018427387904)) (aM (decide ((l_0++l_3++[32]++l_1++[40]++l_2).length+1<4611686018427387904)) (aT (decide ((l_7.length:Int)>0)) (aM (decide ((l_0++l_3++[32]++l_1++[40]++l_2++[41]).length+9<4611686018427387904)) (cV (.call 125 [vl b_6 l_7] []) fun o_3=>aS o_3 fun l_5=>aM (decide ((l_0++l_3++[32]++l_1++[40]++l_2++[41]++[32,116,104,114,111,119,115,32,40]).length+l_5.length<4611686018427387904)) (aM (decide ((l_0++l_3++[32]++l_1++[40]++l_2++[41]++[32,116,104,114,111,119,115,32,40]++l_5).length+1<4611686018427387904)) (.call (.at_ 62 0 [true,true,true,true,true] (sv 35 [(3,vs (l_0++l_3++[32]++l_1++[40]++l_2++[41]++[32,116,104,114,111,119,115,32,40]++l_5++[41]))]) [] []) .ret)))) (.call (.at_ 62 0 [true,true,true,true,true] (sv 35 [(3,vs (l_0++l_3++[32]++l_1++[40]++l_2++[41]))]) [] []) .ret)))))))):=
 aF (by kernel_rfl)
theorem D8(l_0:List UInt8)(n_1:Int)(l_2 l_3:List UInt8)(n_4 n_5 n_6:Int)(l_7:List UInt8)(b_8:Bool)(l_9:List D)(b_10:Bool)(l_11:List D)(b_12:Bool)(l_13:List D)(l_14:List UInt8)(b_15:Bool)(l_16:List D):rk Tryz.prog bn (.at_ 31 0 [true,true,true,true,true,true] (sv 125 [(1,.p 0 0),(4,vs l_0)]) [] [.cells [vi n_1,vs l_2,vs l_3,vi n_4,vi n_5,vu n_6,vs l_7,vl b_8 l_9,vl b_10 l_11,vl b_12 l_13,vs l_14,vl b_15 l_16] []])=aC (rk Tryz.prog bn) (aM (decide (l_0.length+3<4611686018427387904)) (.call (.at_ 31 0 [false,true,false,true,true,true,true,true,true,true] (sv 125 [(1,.p 0 0),(4,vs (l_0++[32,123,10])),(5,vi 0)]) [] [.cells [vi n_1,vs l_2,vs l_3,vi n_4,vi n_5,vu n_6,vs l_7,vl b_8 l_9,vl b_10 l_11,vl b_12 l_13,vs l_14,vl b_15 l_16] []]) .ret)):=
 aF (by kernel_rfl)
theorem zS(l_0:List UInt8)(n_1:Int)(b_2:Bool)(l_3:List D)(b_4:Bool)(l_5:List D)(b_6:Bool)(l_7:List D):rk Tryz.prog bn (.at_ 13 0 [false,true,false,true,true] (sv 64 [(1,.p 0 0),(3,vs l_0),(4,vi n_1)]) [] [.cells [vl b_2 l_3,vl b_4 l_5,vl b_6 l_7] []])=aC (rk Tryz.prog bn) (aT (decide (n_1<(l_3.length:Int))) (aM (decide (l_0.length+9<4611686018427387904)) (eC l_3 n_1 1 0 fun a=>fF a fun b=>aM (decide ((l_0++[105,110,99,108,117,100,101,32,34]).length+b.length<4611686018427387904)) (aM (decide ((l_0++[105,110,99,108,117,100,101,32,34]++b).length+2<4611686018427387904)) (.call (.at_ 13 0 [false,true,false,true,true] (sv 64 [(1,.p 0 0),(3,vs (l_0++[105,110,99,108,117,100,101,32,34]++b++[34,10])),(4,vi (IntKind.i64.wrap (n_1+1)))]) [] [.cells [vl b_2 l_3,vl b_4 l_5,vl b_6 l_7] []]) .ret)))) (.call (.at_ 13 0 [false,true,false,true,true,true] (sv 64 [(1,.p 0 0),(3,vs l_0),(5,vi 0)]) [] [.cells [vl b_2 l_3,vl b_4 l_5,vl b_6 l_7] []]) .ret)):=
 aF (by kernel_rfl)
theorem tq(l_0:List UInt8)(n_1 n_2 n_3 n_4:Int)(l_5:List UInt8)(b_6:Bool)(l_7:List D):rk Tryz.prog bn (.at_ 22 0 [true,false,false,true,false,false,true,false,true,false,true,true,true,true,true,true,true,true,true,false,true,false,true] (sv 100 [(1,.p 0 0),(4,vs l_0),(5,vi n_1)]) [] [.cells [vi n_2,vi n_3,vu n_4,vs l_5,vl b_6 l_7] []])=aC (rk Tryz.prog bn) (eL l_7 n_1 5 fun a=>cV (.call 22 [.d (.g [gD 5 0 a 0,gD 5 0 a 1,gD 5 0 a 2,gD 5 0 a 3,gD 5 0 a 4])] []) fun b=>aS b fun c=>aM (decide (l_0.length+c.length<4611686018427387904)) (.call (.at_ 22 0 [false,true,false,true,false,true,true,true,true,true,true,true,true,true,false,true,false,true] (sv 100 [(1,.p 0 0),(4,vs (l_0++c)),(5,vi (IntKind.i64.wrap (n_1+1)))]) [] [.cells [vi n_2,vi n_3,vu n_4,vs l_5,vl b_6 l_7] []]) .ret)):=
 aF (by kernel_rfl)
theorem Bt(l_0:List UInt8)(n_1 n_2 n_3 n_4:Int)(l_5:List UInt8)(b_6:Bool)(l_7:List D):rk Tryz.prog bn (.at_ 22 0 [true,false,false,true,false,false,true,false,true,true,true] (sv 100 [(1,.p 0 0),(6,vs l_0),(7,vi n_1)]) [] [.cells [vi n_2,vi n_3,vu n_4,vs l_5,vl b_6 l_7] []])=aC (rk Tryz.prog bn) (eL l_7 n_1 5 fun a=>cV (.call 22 [.d (.g [gD 5 0 a 0,gD 5 0 a 1,gD 5 0 a 2,gD 5 0 a 3,gD 5 0 a 4])] []) fun b=>aS b fun c=>aM (decide (l_0.length+c.length<4611686018427387904)) (aM (decide ((l_0++c).length+2<4611686018427387904)) (eL l_7 (IntKind.i64.wrap (n_1+1)) 5 fun e=>cV (.call 22 [.d (.g [gD 5 0 e 0,gD 5 0 e 1,gD 5 0 e 2,gD 5 0 e 3,gD 5 0 e 4])] []) fun f=>aS f fun h=>aM (decide ((l_0++c++[58,32]).length+h.length<4611686018427387904)) (.call (.at_ 22 0 [false,true,false,true,true,true] (sv 100 [(1,.p 0 0),(6,vs (l_0++c++[58,32]++h)),(7,vi (IntKind.i64.wrap (n_1+2)))]) [] [.cells [vi n_2,vi n_3,vu n_4,vs l_5,vl b_6 l_7] []]) .ret)))):=
 aF (by kernel_rfl)
theorem GC(l_0:List UInt8)(b_1:Bool)(n_2 n_3:Int)(l_4 l_5:List UInt8)(b_6:Bool)(n_7 n_8 n_9:Int)(l_10:List UInt8)(b_11:Bool)(l_12:List D):rk Tryz.prog bn (.at_ 61 0 [true,true,true,true] (sv 37 [(1,.p 0 0),(3,vs l_0)]) [] [.cells [vb b_1,vi n_2,vi n_3,vs l_4,vs l_5,vb b_6,vi n_7,vi n_8,vu n_9,vs l_10,vl b_11 l_12] []])=aC (rk Tryz.prog bn) (aM (decide (l_0.length+l_4.length<4611686018427387904)) (aM (decide ((l_0++l_4).length+1<4611686018427387904)) (aM (decide ((l_0++l_4++[32]).length+l_5.length<4611686018427387904)) (aT b_6 (aM (decide ((l_0++l_4++[32]++l_5).length+3<4611686018427387904)) (cV (.call 22 [.d (.g [.i .i64 n_7,.i .i64 n_8,.i .u64 n_9,.s l_10,.l b_11 l_12])] []) fun a=>aS a fun c=>aM (decide ((l_0++l_4++[32]++l_5++[32,61,32]).length+c.length<4611686018427387904)) (.ret (vs (l_0++l_4++[32]++l_5++[32,61,32]++c),[])))) (.ret (vs (l_0++l_4++[32]++l_5),[])))))):=
 aF (by kernel_rfl)
theorem zR(b_0:Bool)(l_1:List D)(l_2:List UInt8)(n_3:Int):rk Tryz.prog bn (.at_ 125 0 [true,false,false,true,false,false,true,false,true,true] (sv 23 [(0,vl b_0 l_1),(3,vs l_2),(4,vi n_3)]) [] [])=aC (rk Tryz.prog bn) (eL l_1 n_3 11 fun a=>cV (.call 61 [.d (.g [gD 11 0 a 0,gD 11 0 a 1,gD 11 0 a 2,gD 11 0 a 3,gD 11 0 a 4,gD 11 0 a 5,gD 11 0 a 6,gD 11 0 a 7,gD 11 0 a 8,gD 11 0 a 9,gD 11 0 a 10])] []) fun b=>aS b fun c=>aM (decide (l_2.length+c.length<4611686018427387904)) (.call (.at_ 125 0 [false,true,false,true,true] (sv 23 [(0,vl b_0 l_1),(3,vs (l_2++c)),(4,vi (IntKind.i64.wrap (n_3+1)))]) [] []) .ret)):=
 aF (by kernel_rfl)
theorem zW(l_0:List UInt8):rk Tryz.prog bn (.at_ 62 0 [true,true,true,true,true] (sv 35 [(3,vs l_0)]) [] [])=aC (rk Tryz.prog bn) (aM (decide (l_0.length+2<4611686018427387904)) (.ret (vs (l_0++[44,10]),[]))):=
 aF (by kernel_rfl)
theorem tu(l_0:List UInt8)(n_1 n_2:Int)(l_3 l_4:List UInt8)(n_5 n_6 n_7:Int)(l_8:List UInt8)(b_9:Bool)(l_10:List D)(b_11:Bool)(l_12:List D)(b_13:Bool)(l_14:List D)(l_15:List UInt8)(b_16:Bool)(l_17:List D):rk Tryz.prog bn (.at_ 31 0 [false,true,false,true,true,true,true,true,true,true] (sv 125 [(1,.p 0 0),(4,vs l_0),(5,vi n_1)]) [] [.cells [vi n_2,vs l_3,vs l_4,vi n_5,vi n_6,vu n_7,vs l_8,vl b_9 l_10,vl b_11 l_12,vl b_13 l_14,vs l_15,vl b_16 l_17] []])=aC (rk Tryz.prog bn) (aT (decide (n_1<(l_14.length:Int))) (aM (decide (l_0.length+2<4611686018427387904)) (eC l_14 n_1 3 0 fun a=>fF a fun b=>aM (decide ((l_0++[32,32]).length+b.length<4611686018427387904)) (eC l_14 n_1 3 1 fun c=>dQ c fun e=>aT e (aM (decide ((l_0++[32,32]++b).length+3<4611686018427387904)) (eC l_14 n_1 3 2 fun f=>bD .i64 f fun g=>cV (.call 47 [vi g] []) fun h=>aS h fun j=>aM (decide ((l_0++[32,32]++b++[32,61,32]).length+j.length<4611686018427387904)) (.call (.at_ 31 0 [true,true,false,false,true,false,false,true,false,true,true,true,true,true,true,true] (sv 125 [(1,.p 0 0),(4,vs (l_0++[32,32]++b++[32,61,32]++j)),(5,vi n_1)]) [] [.cells [vi n_2,vs l_3,vs l_4,vi n_5,vi n_6,vu n_7,vs l_8,vl b_9 l_10,vl b_11 l_12,vl b_13 l_14,vs l_15,vl b_16 l_17] []]) .ret))) (.call (.at_ 31 0 [true,true,false,false,true,false,false,true,false,true,true,true,true,true,true,true] (sv 125 [(1,.p 0 0),(4,vs (l_0++[32,32]++b)),(5,vi n_1)]) [] [.cells [vi n_2,vs l_3,vs l_4,vi n_5,vi n_6,vu n_7,vs l_8,vl b_9 l_10,vl b_11 l_12,vl b_13 l_14,vs l_15,vl b_16 l_17] []]) .ret)))) (.call (.at_ 31 0 [false,true,false,true,true,true,true,true,true,true,true] (sv 125 [(1,.p 0 0),(4,vs l_0),(6,vi 0)]) [] [.cells [vi n_2,vs l_3,vs l_4,vi n_5,vi n_6,vu n_7,vs l_8,vl b_9 l_10,vl b_11 l_12,vl b_13 l_14,vs l_15,vl b_16 l_17] []]) .ret)):=
 aF (by kernel_rfl)
theorem zT(l_0:List UInt8)(n_1:Int)(b_2:Bool)(l_3:List D)(b_4:Bool)(l_5:List D)(b_6:Bool)(l_7:List D):rk Tryz.prog bn (.at_ 13 0 [false,true,false,true,true,true] (sv 64 [(1,.p 0 0),(3,vs l_0),(5,vi n_1)]) [] [.cells [vl b_2 l_3,vl b_4 l_5,vl b_6 l_7] []])=aC (rk Tryz.prog bn) (aT (decide (n_1<(l_5.length:Int))) (aM (decide (l_0.length+10<4611686018427387904)) (eC l_5 n_1 2 0 fun a=>fF a fun b=>aM (decide ((l_0++[110,97,109,101,115,112,97,99,101,32]).length+b.length<4611686018427387904)) (aM (decide ((l_0++[110,97,109,101,115,112,97,99,101,32]++b).length+1<4611686018427387904)) (eC l_5 n_1 2 1 fun c=>fF c fun e=>aM (decide ((l_0++[110,97,109,101,115,112,97,99,101,32]++b++[32]).length+e.length<4611686018427387904)) (aM (decide ((l_0++[110,97,109,101,115,112,97,99,101,32]++b++[32]++e).length+1<4611686018427387904)) (.call (.at_ 13 0 [false,true,false,true,true,true] (sv 64 [(1,.p 0 0),(3,vs (l_0++[110,97,109,101,115,112,97,99,101,32]++b++[32]++e++[10])),(5,vi (IntKind.i64.wrap (n_1+1)))]) [] [.cells [vl b_2 l_3,vl b_4 l_5,vl b_6 l_7] []]) .ret)))))) (.call (.at_ 13 0 [false,true,false,true,true,true,true] (sv 64 [(1,.p 0 0),(3,vs l_0),(6,vi 0)]) [] [.cells [vl b_2 l_3,vl b_4 l_5,vl b_6 l_7] []]) .ret)):=
 aF (by kernel_rfl)
theorem xf(l_0:List UInt8)(n_1 n_2:Int)(l_3 l_4:List UInt8)(n_5 n_6 n_7:Int)(l_8:List UInt8)(b_9:Bool)(l_10:List D)(b_11:Bool)(l_12:List D)(b_13:Bool)(l_14:List D)(l_15:List UInt8)(b_16:Bool)(l_17:List D):rk Tryz.prog bn (.at_ 31 0 [true,true,false,false,true,false,false,true,false,true,true,true,true,true,true,true] (sv 125 [(1,.p 0 0),(4,vs l_0),(5,vi n_1)]) [] [.cells [vi n_2,vs l_3,vs l_4,vi n_5,vi n_6,vu n_7,vs l_8,vl b_9 l_10,vl b_11 l_12,vl b_13 l_14,vs l_15,vl b_16 l_17] []])=aC (rk Tryz.prog bn) (aM (decide (l_0.length+2<4611686018427387904)) (.call (.at_ 31 0 [false,true,false,true,true,true,true,true,true,true] (sv 125 [(1,.p 0 0),(4,vs (l_0++[44,10])),(5,vi (IntKind.i64.wrap (n_1+1)))]) [] [.cells [vi n_2,vs l_3,vs l_4,vi n_5,vi n_6,vu n_7,vs l_8,vl b_9 l_10,vl b_11 l_12,vl b_13 l_14,vs l_15,vl b_16 l_17] []]) .ret)):=
 aF (by kernel_rfl)
theorem tv(l_0:List UInt8)(n_1 n_2:Int)(l_3 l_4:List UInt8)(n_5 n_6 n_7:Int)(l_8:List UInt8)(b_9:Bool)(l_10:List D)(b_11:Bool)(l_12:List D)(b_13:Bool)(l_14:List D)(l_15:List UInt8)(b_16:Bool)(l_17:List D):rk Tryz.prog bn (.at_ 31 0 [false,true,false,true,true,true,true,true,true,true,true] (sv 125 [(1,.p 0 0),(4,vs l_0),(6,vi n_1)]) [] [.cells [vi n_2,vs l_3,vs l_4,vi n_5,vi n_6,vu n_7,vs l_8,vl b_9 l_10,vl b_11 l_12,vl b_13 l_14,vs l_15,vl b_16 l_17] []])=aC (rk Tryz.prog bn) (aT (decide (n_1<(l_12.length:Int))) (aM (decide (l_0.length+2<4611686018427387904)) (eL l_12 n_1 11 fun a=>cV (.call 61 [.d (.g [gD 11 0 a 0,gD 11 0 a 1,gD 11 0 a 2,gD 11 0 a 3,gD 11 0 a 4,gD 11 0 a 5,gD 11 0 a 6,gD 11 0 a 7,gD 11 0 a 8,gD 11 0 a 9,gD 11 0 a 10])] []) fun b=>aS b fun c=>aM (decide ((l_0++[32,32]).length+c.length<4611686018427387904)) (aM (decide ((l_0++[32,32]++c).length+2<4611686018427387904)) (.call (.at_ 31 0 [false,true,false,true,true,true,true,true,true,true,true] (sv 125 [(1,.p 0 0),(4,vs (l_0++[32,32]++c++[44,10])),(6,vi (IntKind.i64.wrap (n_1+1)))]) [] [.cells [vi n_2,vs l_3,vs l_4,vi n_5,vi n_6,vu n_7,vs l_8,vl b_9 l_10,vl b_11 l_12,vl b_13 l_14,vs l_15,vl b_16 l_17] []]) .ret)))) (.call (.at_ 31 0 [false,true,false,true,true,true,true,true,true,true,true,true] (sv 125 [(1,.p 0 0),(4,vs l_0),(7,vi 0)]) [] [.cells [vi n_2,vs l_3,vs l_4,vi n_5,vi n_6,vu n_7,vs l_8,vl b_9 l_10,vl b_11 l_12,vl b_13 l_14,vs l_15,vl b_16 l_17] []]) .ret)):=
 aF (by kernel_rfl)
theorem vN(l_0:List UInt8)(n_1:Int)(b_2:Bool)(l_3:List D)(b_4:Bool)(l_5:List D)(b_6:Bool)(l_7:List D):rk Tryz.prog bn (.at_ 13 0 [false,true,false,true,true,true,true] (sv 64 [(1,.p 0 0),(3,vs l_0),(6,vi n_1)]) [] [.cells [vl b_2 l_3,vl b_4 l_5,vl b_6 l_7] []])=aC (rk Tryz.prog bn) (aT (decide (n_1<(l_7.length:Int))) (eL l_7 n_1 12 fun a=>cV (.call 31 [.d (.g [gD 12 0 a 0,gD 12 0 a 1,gD 12 0 a 2,gD 12 0 a 3,gD 12 0 a 4,gD 12 0 a 5,gD 12 0 a 6,gD 12 0 a 7,gD 12 0 a 8,gD 12 0 a 9,gD 12 0 a 10,gD 12 0 a 11])] []) fun b=>aS b fun c=>aM (decide (l_0.length+c.length<4611686018427387904)) (.call (.at_ 13 0 [false,true,false,true,true,true,true] (sv 64 [(1,.p 0 0),(3,vs (l_0++c)),(6,vi (IntKind.i64.wrap (n_1+1)))]) [] [.cells [vl b_2 l_3,vl b_4 l_5,vl b_6 l_7] []]) .ret)) (.ret (vs l_0,[]))):=
 aF (by kernel_rfl)
theorem tw(l_0:List UInt8)(n_1 n_2:Int)(l_3 l_4:List UInt8)(n_5 n_6 n_7:Int)(l_8:List UInt8)(b_9:Bool)(l_10:List D)(b_11:Bool)(l_12:List D)(b_13:Bool)(l_14:List D)(l_15:List UInt8)(b_16:Bool)(l_17:List D):rk Tryz.prog bn (.at_ 31 0 [false,true,false,true,true,true,true,true,true,true,true,true] (sv 125 [(1,.p 0 0),(4,vs l_0),(7,vi n_1)]) [] [.cells [vi n_2,vs l_3,vs l_4,vi n_5,vi n_6,vu n_7,vs l_8,vl b_9 l_10,vl b_11 l_12,vl b_13 l_14,vs l_15,vl b_16 l_17] []])=aC (rk Tryz.prog bn) (aT (decide (n_1<(l_17.length:Int))) (eL l_17 n_1 5 fun a=>cV (.call 62 [.d (.g [gD 5 0 a 0,gD 5 0 a 1,gD 5 0 a 2,gD 5 0 a 3,gD 5 0 a 4])] []) fun b=>aS b fun c=>aM (decide (l_0.length+c.length<4611686018427387904)) (.call (.at_ 31 0 [false,true,false,true,true,true,true,true,true,true,true,true] (sv 125 [(1,.p 0 0),(4,vs (l_0++c)),(7,vi (IntKind.i64.wrap (n_1+1)))]) [] [.cells [vi n_2,vs l_3,vs l_4,vi n_5,vi n_6,vu n_7,vs l_8,vl b_9 l_10,vl b_11 l_12,vl b_13 l_14,vs l_15,vl b_16 l_17] []]) .ret)) (aM (decide (l_0.length+2<4611686018427387904)) (.ret (vs (l_0++[125,10]),[])))):=
 aF (by kernel_rfl)
end Go.Dn.Dec
namespace Go.Dn.Dec
set_option linter.unusedVariables false
def pQ(s:List UInt8):List UInt8:=if s.contains 34=true then [39]++s++[39]else [34]++s++[34]
def cG:List (List UInt8)->List (List UInt8)
 |a::b::r=>(a++[58,32]++b)::cG r
 |_=>[]
abbrev cD(k n u:Int)(s:List UInt8)(b:Bool)(l:List D):D := .g [.i .i64 k,.i .i64 n,.i .u64 u,.s s,.l b l]
abbrev fD(h:Bool)(id r:Int)(t nm:List UInt8)(hi:Bool)(k n u:Int)(s:List UInt8)(b:Bool)(l:List D):D := .g [.b h,.i .i64 id,.i .i64 r,.s t,.s nm,.b hi,.i .i64 k,.i .i64 n,.i .u64 u,.s s,.l b l]
abbrev mD(nm:List UInt8)(h:Bool)(n:Int):D := .g [.s nm,.b h,.i .i64 n]
abbrev Mf(nm:List UInt8)(ow:Bool)(ret:List UInt8)(ab:Bool)(al:List D)(tb:Bool)(tl:List D):D := .g [.s nm,.b ow,.s ret,.l ab al,.l tb tl]
abbrev dD(kd:Int)(nm ty:List UInt8)(ck cn cu:Int)(cs:List UInt8)(cb:Bool)(cl:List D)(fb:Bool)(fl:List D)(mb:Bool)(ml:List D)(ex:List UInt8)(tb:Bool)(tl:List D):D:=
 .g [.i .i64 kd,.s nm,.s ty,.i .i64 ck,.i .i64 cn,.i .u64 cu,.s cs,.l cb cl,.l fb fl,.l mb ml,.s ex,.l tb tl]
abbrev KL(a b:List UInt8):D := .g [.s a,.s b]
abbrev Mw(ib:Bool)(il:List D)(sb:Bool)(sl:List D)(db:Bool)(dl:List D):D := .g [.l ib il,.l sb sl,.l db dl]
mutual
def fC:D->List UInt8
 | .g [.i _ k,.i _ n,.i _ u,.s s,.l _ l]=>
  if k=1 then js n else if k=2 then qC u.toNat else if k=3 then pQ s else if k=4 then s
  else if k=5 then [91]++Lib.join (jL l) [44,32]++[93]else [123]++Lib.join (cG (jL l)) [44,32]++[125]
 |_=>[]
def jL:List D->List (List UInt8)
 | []=>[]
 |x::xs=>fC x::jL xs
end
def Du:D->List UInt8
 | .g [.b h,.i _ id,.i _ r,.s t,.s nm,.b hi,k,n,u,s,l]=>
  (if h=true then js id++[58,32]else [])++(if r=1 then [114,101,113,117,105,114,101,100,32]else if r=2 then [111,112,116,105,111,110,97,108,32]else [])
   ++ t++[32]++nm++(if hi=true then [32,61,32]++fC (.g [k,n,u,s,l])else [])
 |_=>[]
def jM(l:List D):List UInt8:=Lib.join (l.map Du) [44,32]
def B6:D->List UInt8
 | .g [.s nm,.b h,.i _ n]=>[32,32]++nm++(if h=true then [32,61,32]++js n else [])++[44,10]
 |_=>[]
def Dw(x:D):List UInt8:=[32,32]++Du x++[44,10]
def mo:D->List UInt8
 | .g [.s nm,.b ow,.s ret,.l _ al,.l _ tl]=>
  [32,32]++(if ow=true then [111,110,101,119,97,121,32]else [])++ret++[32]++nm++[40]++jM al++[41]
   ++ (if tl=[]then []else [32,116,104,114,111,119,115,32,40]++jM tl++[41])++[44,10]
 |_=>[]
def J7(kd:Int):List UInt8:=
 if kd=4 then [115,116,114,117,99,116,32]else if kd=5 then [117,110,105,111,110,32]else [101,120,99,101,112,116,105,111,110,32]
def Dt:D->List UInt8
 | .g [.i _ kd,.s nm,.s ty,ck,cn,cu,cs,cl,.l _ fl,.l _ ml,.s ex,.l _ tl]=>
  if kd=1 then [116,121,112,101,100,101,102,32]++ty++[32]++nm++[10]
  else if kd=3 then [99,111,110,115,116,32]++ty++[32]++nm++[32,61,32]++fC (.g [ck,cn,cu,cs,cl])++[10]
  else if kd=2 then [101,110,117,109,32]++nm++[32,123,10]++(ml.map B6).flatten++[125,10]
  else if kd=7 then [115,101,114,118,105,99,101,32]++nm++(if ex=[]then []else [32,101,120,116,101,110,100,115,32]++ex)++[32,123,10]++(tl.map mo).flatten++[125,10]
  else J7 kd++nm++[32,123,10]++(fl.map Dw).flatten++[125,10]
 |_=>[]
def HP:D->List UInt8
 | .s s=>[105,110,99,108,117,100,101,32,34]++s++[34,10]
 |_=>[]
def FK:D->List UInt8
 | .g [.s a,.s b]=>[110,97,109,101,115,112,97,99,101,32]++a++[32]++b++[10]
 |_=>[]
def Dv:D->List UInt8
 | .g [.l _ il,.l _ sl,.l _ dl]=>(il.map HP).flatten++(sl.map FK).flatten++(dl.map Dt).flatten
 |_=>[]
mutual
def Ly:D->D->Bool
 | .g [.i _ k,.i _ n,.i _ u,.s s,.l _ l],.g [.i _ k',.i _ n',.i _ u',.s s',.l _ l']=>k==k'&&(n==n'&&(u==u'&&(s==s'&&Ko l l')))
 |_,_=>false
def Ko:List D->List D->Bool
 | [],[]=>true
 |x::xs,y::ys=>Ly x y&&Ko xs ys
 |_,_=>false
end
def J4(f:D->D->Bool):List D->List D->Bool
 | [],[]=>true
 |x::xs,y::ys=>f x y&&J4 f xs ys
 |_,_=>false
def Lz:D->D->Bool
 | .g [.b h,.i _ id,.i _ r,.s t,.s nm,.b hi,k,n,u,s,l],.g [.b h',.i _ id',.i _ r',.s t',.s nm',.b hi',k',n',u',s',l']=>
  h==h'&&(id==id'&&(r==r'&&(t==t'&&(nm==nm'&&(hi==hi'&&Ly (.g [k,n,u,s,l]) (.g [k',n',u',s',l']))))))
 |_,_=>false
def Mv:D->D->Bool
 | .g [.s nm,.b h,.i _ n],.g [.s nm',.b h',.i _ n']=>nm==nm'&&(h==h'&&n==n')
 |_,_=>false
def LA:D->D->Bool
 | .g [.s nm,.b ow,.s ret,.l _ al,.l _ tl],.g [.s nm',.b ow',.s ret',.l _ al',.l _ tl']=>nm==nm'&&(ow==ow'&&(ret==ret'&&(J4 Lz al al'&&J4 Lz tl tl')))
 |_,_=>false
def Kp:D->D->Bool
 | .g [.i _ kd,.s nm,.s ty,ck,cn,cu,cs,cl,.l _ fl,.l _ ml,.s ex,.l _ tl],.g [.i _ kd',.s nm',.s ty',ck',cn',cu',cs',cl',.l _ fl',.l _ ml',.s ex',.l _ tl']=>
  kd==kd'&&(nm==nm'&&(ty==ty'&&(Ly (.g [ck,cn,cu,cs,cl]) (.g [ck',cn',cu',cs',cl'])&&(J4 Lz fl fl'&&(J4 Mv ml ml'&&(ex==ex'&&J4 LA tl tl'))))))
 |_,_=>false
def Kc(n:Int):Prop:=-9223372036854775808<=n/\n<=9223372036854775807
def L9(n:Int):Prop:=0<=n/\n<18446744073709551616
def Kn:D->Prop
 | .g (.i _ k::_)=>k≠0
 |_=>True
def WC:Nat->D->Prop
 |0,_=>False
 |d+1,x=>∃(k n u:Int) (s:List UInt8) (b:Bool) (l:List D),x=cD k n u s b l/\Kc n/\L9 u/\s.length<=2000/\l.length<=100/\(k=0\/(1<=k/\k<=5)\/l.length%2=0)/\∀y∈l,WC d y/\Kn y
abbrev xF:Nat:=20
def WF(x:D):Prop:=∃(h:Bool) (id r:Int) (t nm:List UInt8) (hi:Bool) (k n u:Int) (s:List UInt8) (b:Bool) (l:List D),x=fD h id r t nm hi k n u s b l/\Kc id/\t.length<=100000/\nm.length<=2000/\(hi=true->k≠0)/\WC xF (cD k n u s b l)
def WM(x:D):Prop:=∃(nm:List UInt8) (h:Bool) (n:Int),x=mD nm h n/\nm.length<=2000/\Kc n
def J2(x:D):Prop:=∃(nm:List UInt8) (ow:Bool) (ret:List UInt8) (ab:Bool) (al:List D) (tb:Bool) (tl:List D),x=Mf nm ow ret ab al tb tl/\nm.length<=2000/\ret.length<=100000/\al.length<=100/\tl.length<=100/\(∀y∈al,WF y)/\∀y∈tl,WF y
def WD(x:D):Prop:=∃(kd:Int) (nm ty:List UInt8) (ck cn cu:Int) (cs:List UInt8) (cb:Bool) (cl:List D) (fb:Bool) (fl:List D) (mb:Bool) (ml:List D) (ex:List UInt8) (tb:Bool) (tl:List D),
 x=dD kd nm ty ck cn cu cs cb cl fb fl mb ml ex tb tl/\1<=kd/\kd<=7/\nm.length<=2000/\ty.length<=100000/\(kd=3->ck≠0)/\WC xF (cD ck cn cu cs cb cl)/\
  fl.length<=100/\(∀y∈fl,WF y)/\ml.length<=100/\(∀y∈ml,WM y)/\ex.length<=2000/\tl.length<=100/\(∀y∈tl,J2 y)/\
  (kd=2->fl=[]/\tl=[]/\ex=[])/\(4<=kd/\kd<=6->ml=[]/\tl=[]/\ex=[])/\(kd=7->fl=[]/\ml=[])
def WI(x:D):Prop:=∃s:List UInt8,x = .s s/\s.length<=2000/\s.contains 34=false
def WS(x:D):Prop:=∃a b:List UInt8,x=KL a b/\a.length<=2000/\b.length<=2000
def Ma(x:D):Prop:=∃(ib:Bool) (il:List D) (sb:Bool) (sl:List D) (db:Bool) (dl:List D),x=Mw ib il sb sl db dl/\il.length<=100/\sl.length<=100/\dl.length<=100/\(∀y∈il,WI y)/\(∀y∈sl,WS y)/\∀y∈dl,WD y
theorem WC.up:∀{d:Nat} {x:D},WC d x->WC (d+1) x
 |0,_,h=>h.elim
 |d+1,x,h=>by
  obtain⟨k,n,u,s,b,l,rfl,h1,h2,h3,h4,h6,h5⟩:=h
  exact⟨k,n,u,s,b,l,rfl,h1,h2,h3,h4,h6,fun y hy=>⟨(h5 y hy).1.up,(h5 y hy).2⟩⟩
theorem WC.le{d e:Nat}(h:d<=e){x:D}(hx:WC d x):WC e x:=by
 induction h with
 |refl=>exact hx
 |step _ ih=>exact ih.up
end Go.Dn.Dec
namespace Go.Dn.Dec
open Go.Proofs
theorem Ml(f:Bool)(l:List D)(n m:Int):rk Tryz.prog bn (.call 24 [.p 0 0,vi m] [.cells [vl f l,vi n] []])=aC (rk Tryz.prog bn) (aT (decide (n ≥ (l.length:Int))) (.ret (vi 0,[.cells [vl f l,vi n] []])) (eC l (IntKind.i64.wrap (IntKind.i64.wrap (n+1)-1)) 1 0 fun a=>bD .u8 a fun b=>aM (decide (m≠0)) (.ret (vi ((IntKind.i64.wrap b).tmod m),[.cells [vl f l,vi (IntKind.i64.wrap (n+1))] []])))):=
 aF (by kernel_rfl)
theorem L5(f:Bool)(l:List D)(n:Int)(s:List UInt8):rk Tryz.prog bn (.call 121 [.p 0 0,vs s] [.cells [vl f l,vi n] []])=aC (rk Tryz.prog bn) (aM (decide (s.length+1<4611686018427387904)) (c1 (.call 24 [.p 0 0,vi 8] [.cells [vl f l,vi n] []]) 2 [] fun a b=>aI a fun c=>eC [.s [105,51,50],.s [115,116,114,105,110,103],.s [98,111,111,108],.s (s++[69]),.s [105,54,52],.s [98,105,110,97,114,121],.s [100,111,117,98,108,101],.s [105,56]] c 1 0 fun e=>fF e fun g => .ret (vs g,[.cells b []]))):=
 aF (by kernel_rfl)
theorem Mm(f:Bool)(l:List D)(n:Int)(s:List UInt8)(d:Int):rk Tryz.prog bn (.call 55 [.p 0 0,vs s,vi d] [.cells [vl f l,vi n] []])=aC (rk Tryz.prog bn) (c1 (.call 24 [.p 0 0,vi 18] [.cells [vl f l,vi n] []]) 2 [] fun a b=>aI a fun c=>aT (decide (d>2)) (.call (.at_ 55 1 [true,true,true] (sv 67 [(0,.p 0 0),(1,vs s),(2,vi d),(7,vi (c.tmod 12))]) [] [.cells b []]) .ret) (.call (.at_ 55 1 [true,true,true] (sv 67 [(0,.p 0 0),(1,vs s),(2,vi d),(7,vi c)]) [] [.cells b []]) .ret)):=
 aF (by kernel_rfl)
theorem Il(f:Bool)(l:List D)(n:Int)(t s:List UInt8):rk Tryz.prog bn (.call 120 [.p 0 0,vs t,vs s] [.cells [vl f l,vi n] []])=aC (rk Tryz.prog bn) (aT (t==[105,51,50]) (.call (.at_ 120 1 [true,false,true,false,true] (sv 61 [(0,.p 0 0),(2,vs s),(6,.p 1 0),(7,vs t),(8,vb (t==[105,51,50]))]) [] [.cells [vi 0,vi 0,vu 0,vs [],vl true []] [],.cells [vl f l,vi n] []]) .ret) (aT (t==[105,54,52]) (.call (.at_ 120 1 [true,false,true,false,true] (sv 61 [(0,.p 0 0),(2,vs s),(6,.p 1 0),(7,vs t),(8,vb (t==[105,54,52]))]) [] [.cells [vi 0,vi 0,vu 0,vs [],vl true []] [],.cells [vl f l,vi n] []]) .ret) (aT (t==[105,49,54]) (.call (.at_ 120 1 [true,false,true,false,true] (sv 61 [(0,.p 0 0),(2,vs s),(6,.p 1 0),(7,vs t),(8,vb (t==[105,49,54]))]) [] [.cells [vi 0,vi 0,vu 0,vs [],vl true []] [],.cells [vl f l,vi n] []]) .ret) (.call (.at_ 120 1 [true,false,true,false,true] (sv 61 [(0,.p 0 0),(2,vs s),(6,.p 1 0),(7,vs t),(8,vb (t==[105,56]))]) [] [.cells [vi 0,vi 0,vu 0,vs [],vl true []] [],.cells [vl f l,vi n] []]) .ret)))):=
 aF (by kernel_rfl)
theorem pd(l_0:List UInt8)(n_1 n_2:Int)(l_3:List V):rk Tryz.prog bn (.at_ 55 1 [true,true,true] (sv 67 [(0,.p 0 0),(1,vs l_0),(2,vi n_1),(7,vi n_2)]) [] [.cells l_3 []])=aC (rk Tryz.prog bn) (aM (decide (l_0.length+1<4611686018427387904)) (aM (decide (l_0.length+1<4611686018427387904)) (aM (decide (l_0.length+1<4611686018427387904)) (aM (decide (l_0.length+1<4611686018427387904)) (aT (decide (n_2<14)) (eC [.s [105,51,50],.s [115,116,114,105,110,103],.s [98,111,111,108],.s [105,56],.s [105,49,54],.s [105,54,52],.s [100,111,117,98,108,101],.s [98,105,110,97,114,121],.s (l_0++[69]),.s (l_0++[84]),.s [105,51,50],.s [115,116,114,105,110,103],.s (l_0++[80]),.s (l_0++[85])] n_2 1 0 fun a=>fF a fun c => .ret (vs c,[.cells l_3 []])) (aT (n_2==14) (.call (.at_ 55 1 [true,true,true,false,false,true,true,true,true] (sv 67 [(0,.p 0 0),(1,vs l_0),(2,vi n_1),(7,vi n_2),(33,vb true)]) [] [.cells l_3 []]) .ret) (.call (.at_ 55 1 [true,true,true,false,false,true,true,true,true] (sv 67 [(0,.p 0 0),(1,vs l_0),(2,vi n_1),(7,vi n_2),(33,vb (n_2==15))]) [] [.cells l_3 []]) .ret))))))):=
 aF (by kernel_rfl)
theorem mi(l_0 l_1:List UInt8)(b_2:Bool)(n_3 n_4 n_5:Int)(l_6:List UInt8)(b_7:Bool)(l_8:List D)(b_9:Bool)(l_10:List D)(n_11:Int):rk Tryz.prog bn (.at_ 120 1 [true,false,true,false,true] (sv 61 [(0,.p 0 0),(2,vs l_0),(6,.p 1 0),(7,vs l_1),(8,vb b_2)]) [] [.cells [vi n_3,vi n_4,vu n_5,vs l_6,vl b_7 l_8] [],.cells [vl b_9 l_10,vi n_11] []])=aC (rk Tryz.prog bn) (aT b_2 (c1 (.call 24 [.p 0 0,vi 200] [.cells [vl b_9 l_10,vi n_11] []]) 2 [] fun o_0 l_3=>aI o_0 fun n_6 => .ret (.d (.g [.i .i64 1,.i .i64 (IntKind.i64.wrap (n_6-72)),.i .u64 0,.s [],.l true []]),[.cells l_3 []])) (aT (l_1==[100,111,117,98,108,101]) (c1 (.call 24 [.p 0 0,vi 255] [.cells [vl b_9 l_10,vi n_11] []]) 2 [] fun o_7 l_10=>aI o_7 fun n_13=>c1 (.call 24 [.p 0 0,vi 255] [.cells l_10 []]) l_10.length [] fun o_14 l_17=>aI o_14 fun n_20 => .ret (.d (.g [.i .i64 2,.i .i64 0,.i .u64 (IntKind.u64.wrap ((BitVec.ofInt IntKind.u64.bits (IntKind.u64.wrap (IntKind.u64.wrap n_13*36028797018963968)) ||| BitVec.ofInt IntKind.u64.bits (IntKind.u64.wrap (IntKind.u64.wrap n_20*1099511627776))).toNat:Int)),.s [],.l true []]),[.cells l_17 []])) (aT (l_1==[115,116,114,105,110,103]) (.call (.at_ 120 1 [true,true,true,true,true,false,true,false,true] (sv 61 [(0,.p 0 0),(2,vs l_0),(6,.p 1 0),(7,vs l_1),(29,vb (l_1==[115,116,114,105,110,103]))]) [] [.cells [vi n_3,vi n_4,vu n_5,vs l_6,vl b_7 l_8] [],.cells [vl b_9 l_10,vi n_11] []]) .ret) (.call (.at_ 120 1 [true,true,true,true,true,false,true,false,true] (sv 61 [(0,.p 0 0),(2,vs l_0),(6,.p 1 0),(7,vs l_1),(29,vb (l_1==[98,105,110,97,114,121]))]) [] [.cells [vi n_3,vi n_4,vu n_5,vs l_6,vl b_7 l_8] [],.cells [vl b_9 l_10,vi n_11] []]) .ret)))):=
 aF (by kernel_rfl)
theorem p9(l_0:List UInt8)(n_1 n_2:Int)(b_3:Bool)(l_4:List V):rk Tryz.prog bn (.at_ 55 1 [true,true,true,false,false,true,true,true,true] (sv 67 [(0,.p 0 0),(1,vs l_0),(2,vi n_1),(7,vi n_2),(33,vb b_3)]) [] [.cells l_4 []])=aC (rk Tryz.prog bn) (aT b_3 (c1 (.call 55 [.p 0 0,vs l_0,vi (IntKind.i64.wrap (n_1+1))] [.cells l_4 []]) l_4.length [] fun a c=>aS a fun e=>aM (decide (5+e.length<4611686018427387904)) (aM (decide (([108,105,115,116,60]++e).length+1<4611686018427387904)) (.ret (vs ([108,105,115,116,60]++e++[62]),[.cells c []])))) (aT (n_2==16) (c1 (.call 121 [.p 0 0,vs l_0] [.cells l_4 []]) l_4.length [] fun f g=>aS f fun h=>aM (decide (4+h.length<4611686018427387904)) (aM (decide (([115,101,116,60]++h).length+1<4611686018427387904)) (.ret (vs ([115,101,116,60]++h++[62]),[.cells g []])))) (c1 (.call 121 [.p 0 0,vs l_0] [.cells l_4 []]) l_4.length [] fun j k=>aS j fun l=>aM (decide (4+l.length<4611686018427387904)) (aM (decide (([109,97,112,60]++l).length+1<4611686018427387904)) (c1 (.call 55 [.p 0 0,vs l_0,vi (IntKind.i64.wrap (n_1+1))] [.cells k []]) k.length [] fun m n=>aS m fun o=>aM (decide (([109,97,112,60]++l++[44]).length+o.length<4611686018427387904)) (aM (decide (([109,97,112,60]++l++[44]++o).length+1<4611686018427387904)) (.ret (vs ([109,97,112,60]++l++[44]++o++[62]),[.cells n []])))))))):=
 aF (by kernel_rfl)
theorem ic(l_0 l_1:List UInt8)(b_2:Bool)(n_3 n_4 n_5:Int)(l_6:List UInt8)(b_7:Bool)(l_8:List D)(b_9:Bool)(l_10:List D)(n_11:Int):rk Tryz.prog bn (.at_ 120 1 [true,true,true,true,true,false,true,false,true] (sv 61 [(0,.p 0 0),(2,vs l_0),(6,.p 1 0),(7,vs l_1),(29,vb b_2)]) [] [.cells [vi n_3,vi n_4,vu n_5,vs l_6,vl b_7 l_8] [],.cells [vl b_9 l_10,vi n_11] []])=aC (rk Tryz.prog bn) (aT b_2 (c1 (.call 24 [.p 0 0,vi 4] [.cells [vl b_9 l_10,vi n_11] []]) 2 [] fun o_0 l_3=>aI o_0 fun n_6=>eC [.s [],.s [97],.s [120,32,121],.s [105,116,39,115]] n_6 1 0 fun d_9=>fF d_9 fun l_10 => .ret (.d (.g [.i .i64 3,.i .i64 0,.i .u64 0,.s l_10,.l true []]),[.cells l_3 []])) (aT (l_1==[98,111,111,108]) (c1 (.call 24 [.p 0 0,vi 2] [.cells [vl b_9 l_10,vi n_11] []]) 2 [] fun o_11 l_14=>aI o_11 fun n_17=>eC [.s [116,114,117,101],.s [102,97,108,115,101]] n_17 1 0 fun d_20=>fF d_20 fun l_21 => .ret (.d (.g [.i .i64 4,.i .i64 0,.i .u64 0,.s l_21,.l true []]),[.cells l_14 []])) (aM (decide (l_0.length+1<4611686018427387904)) (aT (l_1==l_0++[69]) (aM (decide (l_0.length+3<4611686018427387904)) (.ret (.d (.g [.i .i64 4,.i .i64 0,.i .u64 0,.s (l_0++[69,46,65]),.l true []]),[.cells [vl b_9 l_10,vi n_11] []]))) (aM (decide (l_0.length+1<4611686018427387904)) (aT (l_1==l_0++[84]) (aM (decide (l_0.length+1<4611686018427387904)) (.ret (.d (.g [.i .i64 4,.i .i64 0,.i .u64 0,.s (l_0++[67]),.l true []]),[.cells [vl b_9 l_10,vi n_11] []]))) (.ret (.d (.g [.i .i64 5,.i .i64 0,.i .u64 0,.s [],.l true []]),[.cells [vl b_9 l_10,vi n_11] []])))))))):=
 aF (by kernel_rfl)
end Go.Dn.Dec
namespace Go.Dn.Dec
open Go.Proofs
set_option linter.unusedVariables false
set_option linter.unusedSimpArgs false
theorem xi{f:Task->Option Out}{l:List D}{i:Nat}{s:List UInt8}(h:l[i]?=some (.s s)){K:List UInt8->Tr}:
  aC f (ob (bh l (i:Int)) fun d=>aM (d.width==1) (ob l[((i:Int)).toNat]? fun d2=>ob d2.cells[0]? fun d3=>fF d3 K))=aC f (K s):=by
 rw[bp,aJ h]
 show aC f (aM true (ob l[((i:Int)).toNat]? fun d2=>ob d2.cells[0]? fun d3=>fF d3 K))=_
 rw[ba,Int.toNat_natCast,aJ h];rfl
theorem GF{f:Task->Option Out}{l:List D}{i:Nat}{k:IntKind}{v:Int}(h:l[i]?=some (.i k v)){K:Int->Tr}:
  aC f (ob (bh l (i:Int)) fun d=>aM (d.width==1) (ob l[((i:Int)).toNat]? fun d2=>ob d2.cells[0]? fun d3=>bD k d3 K))=aC f (K v):=by
 rw[bp,aJ h]
 show aC f (aM true (ob l[((i:Int)).toNat]? fun d2=>ob d2.cells[0]? fun d3=>bD k d3 K))=_
 rw[ba,Int.toNat_natCast,aJ h]
 show aC f (bD k (.i k v) K)=_
 rw[bl,if_pos rfl]
theorem wW{f:Task->Option Out}{t:Task}{s:List UInt8}{cs:List V}{fl fl':Fl}{m:Nat}{K:List V->List UInt8->Tr}(h:f t=some (.d (.s s),[.cells cs fl]))(hm:cs.length=m)(hf:(fl==fl')=true):
  aC f (.call t fun o=>gE o.snd fun x l2=>fk x fun c g=>aM (c.length==m) (aM (g==fl') (jZ l2 (aW o.fst fun d=>fF d fun y=>K c y))))=aC f (K cs s):=by
 rw[cE h]
 show aC f (aM (cs.length==m) (aM (fl==fl') (K cs s)))=_
 rw[hm,beq_self_eq_true,ba,hf,ba]
abbrev fS(zs:List Int)(n:Nat):List V:=[V.d (D.l false (ints .u8 zs)),V.d (D.i .i64 (n:Int))]
abbrev pk(zs:List Int)(n:Nat):Ob:=Ob.cells (fS zs n) []
structure Pk (zs:List Int) (n:Nat):Prop where
 w:∀z∈zs,0<=z/\z<256
 l:zs.length<=1000
 n:n<=zs.length
theorem eJ{zs:List Int}{n m:Nat}(h:Pk zs n)(M:Int)(hM:M=(m:Int))(hm:0<m)(hm2:m<1000000):∃k n':Nat,k<m/\Pk zs n'/\
  rk Tryz.prog bn (Task.call 24 [V.p 0 0,V.d (D.i .i64 M)] [pk zs n])=some (.d (.i .i64 (k:Int)),[pk zs n']):=by
 subst hM
 have hlen:(ints .u8 zs).length=zs.length:=gZ _ _
 have hl:=h.l
 have hn:=h.n
 by_cases hc:n<zs.length
 ·have hz:=h.w _ (List.getElem_mem hc)
  have hget:(ints .u8 zs)[n]?=some (.i .u8 zs[n]):=by simp[ints,List.getElem?_eq_getElem hc]
  refine⟨zs[n].toNat%m,n+1,Nat.mod_lt _ hm,⟨h.w,h.l,hc⟩,?_⟩
  have w1:IntKind.i64.wrap ((n:Int)+1)=((n+1:Nat):Int):=by rw[wrap_i64]<;>omega
  have w2:IntKind.i64.wrap (((n+1:Nat):Int)-1)=(n:Int):=by rw[wrap_i64]<;>omega
  have w3:IntKind.i64.wrap zs[n]=zs[n]:=by rw[wrap_i64]<;>omega
  unfold pk fS
  rw[Ml,bc (by rw[hlen];omega),w1,w2,GF hget,aH (by omega),w3]
  show some _=some _
  have:(zs[n]).tmod (m:Int)=((zs[n].toNat%m:Nat):Int):=by
   conv=>lhs;rw[<-Int.toNat_of_nonneg hz.1]
   rfl
  rw[this]
 ·refine⟨0,n,hm,h,?_⟩
  unfold pk fS
  rw[Ml,bf (by rw[hlen];omega)];rfl
theorem Iu{zs:List Int}{n:Nat}(h:Pk zs n)(s:List UInt8)(hs:s.length<=100):∃(t:List UInt8) (n':Nat),t.length<=s.length+6/\Pk zs n'/\
  rk Tryz.prog bn (Task.call 121 [V.p 0 0,V.d (D.s s)] [pk zs n])=some (.d (.s t),[pk zs n']):=by
 obtain⟨k,n',hk,h',hr⟩:=eJ h (m:=8) 8 rfl (by omega) (by omega)
 have hx:∃t:List UInt8,([D.s [105,51,50],D.s [115,116,114,105,110,103],D.s [98,111,111,108],D.s (s++[69]),D.s [105,54,52],D.s [98,105,110,97,114,121],D.s [100,111,117,98,108,101],D.s [105,56]]:List D)[k]?=some (.s t)/\t.length<=s.length+6:=by
  rcases k with _|_|_|_|_|_|_|_|k
  all_goals first
   |exact⟨_,rfl,by simp⟩
   |omega
 obtain⟨t,ht,hl⟩:=hx
 refine⟨t,n',hl,h',?_⟩
 rw[L5,aH (by omega),cr (m:=2) (fl':=[]) hr rfl rfl,xi ht]
 rfl
end Go.Dn.Dec
namespace Go.Dn.Dec
open Go.Proofs
set_option linter.unusedVariables false
set_option linter.unusedSimpArgs false
def By(d B:Nat):Prop:=∀(zs:List Int) (n:Nat) (s:List UInt8),Pk zs n->s.length<=100->∃(t:List UInt8) (n':Nat),t.length<=B/\Pk zs n'/\
 rk Tryz.prog bn (Task.call 55 [V.p 0 0,V.d (D.s s),V.d (D.i .i64 (d:Int))] [pk zs n])=some (.d (.s t),[pk zs n'])
theorem zN{k:Nat}(hk:k<14)(s:List UInt8)(hs:s.length<=100)(d:Int)(cs:List V):∃t:List UInt8,t.length<=106/\
    rk Tryz.prog bn (Task.at_ 55 1 [true,true,true] (sv 67 [(0,V.p 0 0),(1,V.d (D.s s)),(2,V.d (D.i .i64 d)),(7,V.d (D.i .i64 (k:Int)))]) [] [Ob.cells cs []])=some (.d (.s t),[Ob.cells cs []]):=by
  have hx:∃t:List UInt8,([D.s [105,51,50],D.s [115,116,114,105,110,103],D.s [98,111,111,108],D.s [105,56],D.s [105,49,54],D.s [105,54,52],D.s [100,111,117,98,108,101],
                D.s [98,105,110,97,114,121],D.s (s++[69]),D.s (s++[84]),D.s [105,51,50],D.s [115,116,114,105,110,103],D.s (s++[80]),D.s (s++[85])]:List D)[k]?=some (.s t)/\t.length<=106:=by
    rcases k with _|_|_|_|_|_|_|_|_|_|_|_|_|_|k
    all_goals first
      |(refine⟨_,rfl,?_⟩;simp;done)
      |(refine⟨_,rfl,?_⟩;simp;omega)
      |omega
  obtain⟨t,ht,hl⟩:=hx
  refine⟨t,hl,?_⟩
  rw[pd,aH (by omega),aH (by omega),aH (by omega),aH (by omega),bf (by omega),xi ht]
  rfl
theorem KP:By 3 106:=by
 intro zs n s h hs
 obtain⟨k,n',hk,h',hr⟩:=eJ h (m:=18) 18 rfl (by omega) (by omega)
 obtain⟨t,ht,hl⟩:=zN (k:=k%12) (by omega) s hs 3 (fS zs n')
 refine⟨t,n',ht,h',?_⟩
 have e:((k:Int)).tmod 12=((k%12:Nat):Int):=rfl
 rw[Mm,cr (m:=2) (fl':=[]) hr rfl rfl,bf (by decide),e]
 exact bB hl
theorem Bl{d B:Nat}(hd:d<=2)(hB:B<=1000)(hi:By (d+1) B):By d (B+112):=by
 intro zs n s h hs
 obtain⟨k,n',hk,h',hr⟩:=eJ h (m:=18) 18 rfl (by omega) (by omega)
 have w:IntKind.i64.wrap ((d:Int)+1)=((d+1:Nat):Int):=by rw[wrap_i64]<;>omega
 have key:∃(t:List UInt8) (n2:Nat),t.length<=B+112/\Pk zs n2/\rk Tryz.prog bn (Task.at_ 55 1 [true,true,true] (sv 67 [(0,V.p 0 0),(1,V.d (D.s s)),(2,V.d (D.i .i64 (d:Int))),(7,V.d (D.i .i64 (k:Int)))]) [] [Ob.cells (fS zs n') []])=some (.d (.s t),[pk zs n2]):=by
  by_cases hk14:k<14
  ·obtain⟨t,ht,hl⟩:=zN hk14 s hs d (fS zs n')
   by_cases hB106:B+112<106
   ·omega
   ·exact⟨t,n',by omega,h',hl⟩
  ·-- a list
   have hlist:∃(t:List UInt8) (n2:Nat),t.length<=B+112/\Pk zs n2/\∀k2:Int,rk Tryz.prog bn (Task.at_ 55 1 [true,true,true,false,false,true,true,true,true] (sv 67 [(0,V.p 0 0),(1,V.d (D.s s)),(2,V.d (D.i .i64 (d:Int))),(7,V.d (D.i .i64 k2)),(33,V.d (D.b true))]) [] [Ob.cells (fS zs n') []])=some (.d (.s t),[pk zs n2]):=by
    obtain⟨t,n2,ht,h2,hr2⟩:=hi zs n' s h' hs
    refine⟨[108,105,115,116,60]++t++[62],n2,by simp;omega,h2,fun k2=>?_⟩
    rw[p9,bk,w,wW (m:=(fS zs n').length) (fl':=[]) hr2 rfl rfl,aH (by omega),aH (by simp;omega)]
    rfl
   have hset:k=16->∃(t:List UInt8) (n2:Nat),t.length<=B+112/\Pk zs n2/\rk Tryz.prog bn (Task.at_ 55 1 [true,true,true,false,false,true,true,true,true] (sv 67 [(0,V.p 0 0),(1,V.d (D.s s)),(2,V.d (D.i .i64 (d:Int))),(7,V.d (D.i .i64 (k:Int))),(33,V.d (D.b false))]) [] [Ob.cells (fS zs n') []])=some (.d (.s t),[pk zs n2]):=by
    intro hk16
    obtain⟨t,n2,ht,h2,hr2⟩:=Iu h' s hs
    refine⟨[115,101,116,60]++t++[62],n2,by simp;omega,h2,?_⟩
    rw[p9,aY,cm (by omega),wW (m:=(fS zs n').length) (fl':=[]) hr2 rfl rfl,aH (by omega),aH (by simp;omega)]
    rfl
   have hmap:k≠16->∃(t:List UInt8) (n2:Nat),t.length<=B+112/\Pk zs n2/\rk Tryz.prog bn (Task.at_ 55 1 [true,true,true,false,false,true,true,true,true] (sv 67 [(0,V.p 0 0),(1,V.d (D.s s)),(2,V.d (D.i .i64 (d:Int))),(7,V.d (D.i .i64 (k:Int))),(33,V.d (D.b false))]) [] [Ob.cells (fS zs n') []])=some (.d (.s t),[pk zs n2]):=by
    intro hk16
    obtain⟨t,n2,ht,h2,hr2⟩:=Iu h' s hs
    obtain⟨u,n3,hu,h3,hr3⟩:=hi zs n2 s h2 hs
    refine⟨[109,97,112,60]++t++[44]++u++[62],n3,by simp;omega,h3,?_⟩
    rw[p9,aY,bO (by omega),wW (m:=(fS zs n').length) (fl':=[]) hr2 rfl rfl,aH (by omega),aH (by simp;omega),w,
     wW (m:=(fS zs n2).length) (fl':=[]) hr3 rfl rfl,aH (by simp;omega),aH (by simp;omega)]
    rfl
   by_cases h14:k=14
   ·obtain⟨t,n2,ht,h2,hr2⟩:=hlist
    refine⟨t,n2,ht,h2,?_⟩
    rw[pd,aH (by omega),aH (by omega),aH (by omega),aH (by omega),bc (by omega),cm (by omega)]
    exact bB (hr2 _)
   ·by_cases h15:k=15
    ·obtain⟨t,n2,ht,h2,hr2⟩:=hlist
     refine⟨t,n2,ht,h2,?_⟩
     have e:((k:Int)==15)=true:=by rw[h15];rfl
     rw[pd,aH (by omega),aH (by omega),aH (by omega),aH (by omega),bc (by omega),bO (by omega),e]
     exact bB (hr2 _)
    ·have e:((k:Int)==15)=false:=beq_eq_false_iff_ne.2 (by omega)
     have hx:∃(t:List UInt8) (n2:Nat),t.length<=B+112/\Pk zs n2/\rk Tryz.prog bn (Task.at_ 55 1 [true,true,true,false,false,true,true,true,true] (sv 67 [(0,V.p 0 0),(1,V.d (D.s s)),(2,V.d (D.i .i64 (d:Int))),(7,V.d (D.i .i64 (k:Int))),(33,V.d (D.b false))]) [] [Ob.cells (fS zs n') []])=some (.d (.s t),[pk zs n2]):=by
      by_cases h16:k=16
      ·exact hset h16
      ·exact hmap h16
     obtain⟨t,n2,ht,h2,hr2⟩:=hx
     refine⟨t,n2,ht,h2,?_⟩
     rw[pd,aH (by omega),aH (by omega),aH (by omega),aH (by omega),bc (by omega),bO (by omega),e]
     exact bB hr2
 obtain⟨t,n2,ht,h2,hr2⟩:=key
 refine⟨t,n2,ht,h2,?_⟩
 rw[Mm,cr (m:=2) (fl':=[]) hr rfl rfl,bc (by omega)]
 exact bB hr2
theorem KQ:By 0 442:=Bl (by omega) (by omega) (Bl (by omega) (by omega) (Bl (by omega) (by omega) KP))
end Go.Dn.Dec
namespace Go.Dn.Dec
open Go.Proofs
set_option linter.unusedVariables false
set_option linter.unusedSimpArgs false
def vP(d:D):Prop:=∃(k n u:Int) (s:List UInt8),d = .g [.i .i64 k,.i .i64 n,.i .u64 u,.s s,.l true []]/\1<=k/\k<=5/\-1000<=n/\n<=1000/\0<=u/\u<18446744073709551616/\s.length<=103
theorem iq{k n u:Int}{s:List UInt8}(h1:1<=k/\k<=5)(h2:-1000<=n/\n<=1000)(h3:0<=u/\u<18446744073709551616)(h4:s.length<=103):vP (.g [.i .i64 k,.i .i64 n,.i .u64 u,.s s,.l true []]):=
 ⟨k,n,u,s,rfl,h1.1,h1.2,h2.1,h2.2,h3.1,h3.2,h4⟩
theorem D4(n:Int):IntKind.u64.wrap n=n%18446744073709551616:=by
 have e:((2:Int)^IntKind.u64.bits)=18446744073709551616:=by decide
 simp[IntKind.wrap,IntKind.signed,e]
theorem D3(n:Int):0<=IntKind.u64.wrap n/\IntKind.u64.wrap n<18446744073709551616:=by
 rw[D4];omega
theorem GA{zs:List Int}{n:Nat}(h:Pk zs n)(s t:List UInt8)(hs:s.length<=100)(b:Bool)(hb:b=false->t≠[100,111,117,98,108,101])(n3 n4 n5:Int)(l6:List UInt8)(b7:Bool)(l8:List D):
  ∃(d:D) (n':Nat),vP d/\Pk zs n'/\rk Tryz.prog bn (Task.at_ 120 1 [true,true,true,true,true,false,true,false,true] (sv 61 [(0,V.p 0 0),(2,V.d (D.s s)),(6,V.p 1 0),(7,V.d (D.s t)),(29,V.d (D.b b))]) []
   [Ob.cells [V.d (D.i IntKind.i64 n3),V.d (D.i IntKind.i64 n4),V.d (D.i IntKind.u64 n5),V.d (D.s l6),V.d (D.l b7 l8)] [],pk zs n])=some (.d d,[pk zs n']):=by
 cases b with
 |true=>
  obtain⟨k,n',hk,h',hr⟩:=eJ h (m:=4) 4 rfl (by omega) (by omega)
  have hx:∃u:List UInt8,([D.s [],D.s [97],D.s [120,32,121],D.s [105,116,39,115]]:List D)[k]?=some (.s u)/\u.length<=103:=by
   rcases k with _|_|_|_|k
   all_goals first
    |(refine⟨_,rfl,?_⟩;simp;done)
    |omega
  obtain⟨u,hu,hl⟩:=hx
  refine⟨_,n',iq (k:=3) (n:=0) (u:=0) (by omega) (by omega) (by omega) hl,h',?_⟩
  rw[ic,bk,cr (m:=2) (fl':=[]) hr rfl rfl,xi hu];rfl
 |false=>
  by_cases hbool:t=[98,111,111,108]
  ·obtain⟨k,n',hk,h',hr⟩:=eJ h (m:=2) 2 rfl (by omega) (by omega)
   have hx:∃u:List UInt8,([D.s [116,114,117,101],D.s [102,97,108,115,101]]:List D)[k]?=some (.s u)/\u.length<=103:=by
    rcases k with _|_|k
    all_goals first
     |(refine⟨_,rfl,?_⟩;simp;done)
     |omega
   obtain⟨u,hu,hl⟩:=hx
   refine⟨_,n',iq (k:=4) (n:=0) (u:=0) (by omega) (by omega) (by omega) hl,h',?_⟩
   rw[ic,aY,da (by rw[hbool];rfl),cr (m:=2) (fl':=[]) hr rfl rfl,xi hu];rfl
  ·by_cases hE:t=s++[69]
   ·refine⟨_,n,iq (k:=4) (n:=0) (u:=0) (s:=s++[69,46,65]) (by omega) (by omega) (by omega) (by simp;omega),h,?_⟩
    rw[ic,aY,cj (beq_eq_false_iff_ne.2 hbool),aH (by omega),da (beq_iff_eq.2 hE),aH (by omega)];rfl
   ·by_cases hT:t=s++[84]
    ·refine⟨_,n,iq (k:=4) (n:=0) (u:=0) (s:=s++[67]) (by omega) (by omega) (by omega) (by simp;omega),h,?_⟩
     rw[ic,aY,cj (beq_eq_false_iff_ne.2 hbool),aH (by omega),cj (beq_eq_false_iff_ne.2 hE),aH (by omega),da (beq_iff_eq.2 hT),aH (by omega)];rfl
    ·refine⟨_,n,iq (k:=5) (n:=0) (u:=0) (s:=[]) (by omega) (by omega) (by omega) (by simp),h,?_⟩
     rw[ic,aY,cj (beq_eq_false_iff_ne.2 hbool),aH (by omega),cj (beq_eq_false_iff_ne.2 hE),aH (by omega),cj (beq_eq_false_iff_ne.2 hT)];rfl
theorem J0{zs:List Int}{n:Nat}(h:Pk zs n)(s t:List UInt8)(hs:s.length<=100)(b:Bool)(n3 n4 n5:Int)(l6:List UInt8)(b7:Bool)(l8:List D):
  ∃(d:D) (n':Nat),vP d/\Pk zs n'/\rk Tryz.prog bn (Task.at_ 120 1 [true,false,true,false,true] (sv 61 [(0,V.p 0 0),(2,V.d (D.s s)),(6,V.p 1 0),(7,V.d (D.s t)),(8,V.d (D.b b))]) []
   [Ob.cells [V.d (D.i IntKind.i64 n3),V.d (D.i IntKind.i64 n4),V.d (D.i IntKind.u64 n5),V.d (D.s l6),V.d (D.l b7 l8)] [],pk zs n])=some (.d d,[pk zs n']):=by
 cases b with
 |true=>
  obtain⟨k,n',hk,h',hr⟩:=eJ h (m:=200) 200 rfl (by omega) (by omega)
  have w:IntKind.i64.wrap ((k:Int)-72)=(k:Int)-72:=by rw[wrap_i64]<;>omega
  refine⟨_,n',iq (k:=1) (n:=(k:Int)-72) (u:=0) (s:=[]) (by omega) (by omega) (by omega) (by simp),h',?_⟩
  rw[mi,bk,cr (m:=2) (fl':=[]) hr rfl rfl,w];rfl
 |false=>
  by_cases hd:t=[100,111,117,98,108,101]
  ·obtain⟨k,n',hk,h',hr⟩:=eJ h (m:=255) 255 rfl (by omega) (by omega)
   obtain⟨k2,n2,hk2,h2,hr2⟩:=eJ h' (m:=255) 255 rfl (by omega) (by omega)
   refine⟨_,n2,iq (k:=2) (n:=0) (u:=IntKind.u64.wrap ((BitVec.ofInt IntKind.u64.bits (IntKind.u64.wrap (IntKind.u64.wrap (k:Int)*36028797018963968)) ||| BitVec.ofInt IntKind.u64.bits (IntKind.u64.wrap (IntKind.u64.wrap (k2:Int)*1099511627776))).toNat:Int)) (s:=[]) (by omega) (by omega) (D3 _) (by simp),h2,?_⟩
   rw[mi,aY,da (by rw[hd];rfl),cr (m:=2) (fl':=[]) hr rfl rfl,cr (m:=(fS zs n').length) (fl':=[]) hr2 rfl rfl];rfl
  ·by_cases hstr:t=[115,116,114,105,110,103]
   ·obtain⟨d,n',hL,h',hr⟩:=GA h s t hs true (fun e=>by cases e) n3 n4 n5 l6 b7 l8
    refine⟨d,n',hL,h',?_⟩
    have e:(t==[115,116,114,105,110,103])=true:=beq_iff_eq.2 hstr
    rw[mi,aY,cj (beq_eq_false_iff_ne.2 hd),e]
    exact bB hr
   ·obtain⟨d,n',hL,h',hr⟩:=GA h s t hs (t==[98,105,110,97,114,121]) (fun _=>hd) n3 n4 n5 l6 b7 l8
    refine⟨d,n',hL,h',?_⟩
    rw[mi,aY,cj (beq_eq_false_iff_ne.2 hd),cj (beq_eq_false_iff_ne.2 hstr)]
    exact bB hr
theorem Jj{zs:List Int}{n:Nat}(h:Pk zs n)(t s:List UInt8)(hs:s.length<=100):∃(d:D) (n':Nat),vP d/\Pk zs n'/\
  rk Tryz.prog bn (Task.call 120 [V.p 0 0,V.d (D.s t),V.d (D.s s)] [pk zs n])=some (.d d,[pk zs n']):=by
 have key:∀b:Bool,_:=fun b=>J0 h s t hs b 0 0 0 [] true []
 by_cases h1:t=[105,51,50]
 ·obtain⟨d,n',hL,h',hr⟩:=key (t==[105,51,50])
  refine⟨d,n',hL,h',?_⟩
  rw[Il,da (beq_iff_eq.2 h1)];exact bB hr
 ·by_cases h2:t=[105,54,52]
  ·obtain⟨d,n',hL,h',hr⟩:=key (t==[105,54,52])
   refine⟨d,n',hL,h',?_⟩
   rw[Il,cj (beq_eq_false_iff_ne.2 h1),da (beq_iff_eq.2 h2)];exact bB hr
  ·by_cases h3:t=[105,49,54]
   ·obtain⟨d,n',hL,h',hr⟩:=key (t==[105,49,54])
    refine⟨d,n',hL,h',?_⟩
    rw[Il,cj (beq_eq_false_iff_ne.2 h1),cj (beq_eq_false_iff_ne.2 h2),da (beq_iff_eq.2 h3)];exact bB hr
   ·obtain⟨d,n',hL,h',hr⟩:=key (t==[105,56])
    refine⟨d,n',hL,h',?_⟩
    rw[Il,cj (beq_eq_false_iff_ne.2 h1),cj (beq_eq_false_iff_ne.2 h2),cj (beq_eq_false_iff_ne.2 h3)];exact bB hr
end Go.Dn.Dec
namespace Go.Dn.Dec
open Go.Proofs
theorem MH(f:Bool)(l:List D)(n:Int)(s:List UInt8):rk Tryz.prog bn (.call 54 [.p 0 0,vs s] [.cells [vl f l,vi n] []])=aC (rk Tryz.prog bn) (c1 (.call 24 [.p 0 0,vi 3] [.cells [vl f l,vi n] []]) 2 [] fun a b=>aI a fun c => .call (.at_ 54 1 [false,true,false,true,true] (sv 31 [(0,.p 0 0),(1,vs s),(5,vl true []),(6,vi 0),(7,vi c)]) [(5,11)] [.cells b []]) .ret):=
 aF (by kernel_rfl)
theorem MG(f:Bool)(l:List D)(n m:Int)(s:List UInt8)(u:Bool):rk Tryz.prog bn (.call 53 [.p 0 0,vi m,vs s,vb u] [.cells [vl f l,vi n] []])=aC (rk Tryz.prog bn) (c1 (.call 24 [.p 0 0,vi (IntKind.i64.wrap (m+1))] [.cells [vl f l,vi n] []]) 2 [] fun a c=>aI a fun e => .call (.at_ 53 1 [false,true,false,true,true] (sv 100 [(0,.p 0 0),(2,vs s),(3,vb u),(9,vl true []),(10,vi 0),(11,vi e)]) [(9,11)] [.cells c []]) .ret):=
 aF (by kernel_rfl)
theorem zV(l_0:List UInt8)(b_1:Bool)(l_2:List D)(n_3 n_4:Int)(l_5:List V):rk Tryz.prog bn (.at_ 54 1 [false,true,false,true,true] (sv 31 [(0,.p 0 0),(1,vs l_0),(5,vl b_1 l_2),(6,vi n_3),(7,vi n_4)]) [(5,11)] [.cells l_5 []])=aC (rk Tryz.prog bn) (aT (decide (n_3<n_4)) (c1 (.call 55 [.p 0 0,vs l_0,vi 0] [.cells l_5 []]) l_5.length [] fun a c=>aS a fun e=>aM (bw 11 l_2) (aM (b_1||true) (aM (decide (l_2.length+1<=4294967296)) (.call (.at_ 54 1 [false,true,false,true,true] (sv 31 [(0,.p 0 0),(1,vs l_0),(5,vl (b_1&&false) (l_2++[.g [.b true,.i .i64 (IntKind.i64.wrap (n_3+1)),.i .i64 0,.s e,.s ([97]++[UInt8.ofNat (IntKind.u8.wrap (IntKind.i64.wrap (48+n_3))).toNat]),.b false,.i .i64 0,.i .i64 0,.i .u64 0,.s [],.l true []]])),(6,vi (IntKind.i64.wrap (n_3+1))),(7,vi n_4)]) [(5,11)] [.cells c []]) .ret)))) (.ret (vl b_1 l_2,[.cells l_5 []]))):=
 aF (by kernel_rfl)
theorem lT(l_0:List UInt8)(b_1 b_2:Bool)(l_3:List D)(n_4 n_5:Int)(l_6:List V):rk Tryz.prog bn (.at_ 53 1 [false,true,false,true,true] (sv 100 [(0,.p 0 0),(2,vs l_0),(3,vb b_1),(9,vl b_2 l_3),(10,vi n_4),(11,vi n_5)]) [(9,11)] [.cells l_6 []])=aC (rk Tryz.prog bn) (aT (decide (n_4<n_5)) (.call (.at_ 53 1 [true,false,false,false,true,false,true,true] (sv 100 [(0,.p 0 0),(2,vs l_0),(3,vb b_1),(9,vl b_2 l_3),(10,vi n_4),(11,vi n_5),(26,vb true)]) [(9,11)] [.cells l_6 []]) .ret) (aT b_1 (.call (.at_ 53 1 [true,false,false,false,true,false,true,true] (sv 100 [(0,.p 0 0),(2,vs l_0),(3,vb b_1),(9,vl b_2 l_3),(10,vi n_4),(11,vi n_5),(26,vb (n_4==0))]) [(9,11)] [.cells l_6 []]) .ret) (.call (.at_ 53 1 [true,false,false,false,true,false,true,true] (sv 100 [(0,.p 0 0),(2,vs l_0),(3,vb b_1),(9,vl b_2 l_3),(10,vi n_4),(11,vi n_5),(26,vb false)]) [(9,11)] [.cells l_6 []]) .ret))):=
 aF (by kernel_rfl)
theorem p8(l_0:List UInt8)(b_1 b_2:Bool)(l_3:List D)(n_4 n_5:Int)(b_6:Bool)(l_7:List V):rk Tryz.prog bn (.at_ 53 1 [true,false,false,false,true,false,true,true] (sv 100 [(0,.p 0 0),(2,vs l_0),(3,vb b_1),(9,vl b_2 l_3),(10,vi n_4),(11,vi n_5),(26,vb b_6)]) [(9,11)] [.cells l_7 []])=aC (rk Tryz.prog bn) (aT b_6 (c1 (.call 24 [.p 0 0,vi 6] [.cells l_7 []]) l_7.length [] fun a c=>aI a fun e=>c1 (.call 24 [.p 0 0,vi 3] [.cells c []]) c.length [] fun f g=>aI f fun h=>c1 (.call 55 [.p 0 0,vs l_0,vi 0] [.cells g []]) g.length [] fun j k=>aS j fun m=>aT (!decide (e>0)) (.call (.at_ 53 1 [true,true,false,false,true,false,false,true,false,true,true] (sv 100 [(0,.p 0 0),(2,vs l_0),(3,vb b_1),(9,vl b_2 l_3),(10,vi n_4),(11,vi n_5),(12,.p 1 0)]) [(9,11)] [.cells [vb (decide (e>0)),vi 0,vi 0,vs m,vs ([102]++[UInt8.ofNat (IntKind.u8.wrap (IntKind.i64.wrap (97+n_4))).toNat]),vb false,vi 0,vi 0,vu 0,vs [],vl true []] [],.cells k []]) .ret) (.call (.at_ 53 1 [true,true,false,false,true,false,false,true,false,true,true] (sv 100 [(0,.p 0 0),(2,vs l_0),(3,vb b_1),(9,vl b_2 l_3),(10,vi n_4),(11,vi n_5),(12,.p 1 0)]) [(9,11)] [.cells [vb (decide (e>0)),vi (IntKind.i64.wrap (IntKind.i64.wrap (1+n_4)+IntKind.i64.wrap (IntKind.i64.wrap (n_4*h)*8))),vi 0,vs m,vs ([102]++[UInt8.ofNat (IntKind.u8.wrap (IntKind.i64.wrap (97+n_4))).toNat]),vb false,vi 0,vi 0,vu 0,vs [],vl true []] [],.cells k []]) .ret)) (.ret (vl b_2 l_3,[.cells l_7 []]))):=
 aF (by kernel_rfl)
theorem iU(l_0:List UInt8)(b_1 b_2:Bool)(l_3:List D)(n_4 n_5:Int)(b_6:Bool)(n_7 n_8:Int)(l_9 l_10:List UInt8)(b_11:Bool)(n_12 n_13 n_14:Int)(l_15:List UInt8)(b_16:Bool)(l_17:List D)(l_18:List V):rk Tryz.prog bn (.at_ 53 1 [true,true,false,false,true,false,false,true,false,true,true] (sv 100 [(0,.p 0 0),(2,vs l_0),(3,vb b_1),(9,vl b_2 l_3),(10,vi n_4),(11,vi n_5),(12,.p 1 0)]) [(9,11)] [.cells [vb b_6,vi n_7,vi n_8,vs l_9,vs l_10,vb b_11,vi n_12,vi n_13,vu n_14,vs l_15,vl b_16 l_17] [],.cells l_18 []])=aC (rk Tryz.prog bn) (aT (!b_1) (c1 (.call 24 [.p 0 0,vi 4] [.cells l_18 []]) l_18.length [] fun a c=>aI a fun e=>eC [.i .i64 0,.i .i64 0,.i .i64 1,.i .i64 2] e 1 0 fun f=>bD .i64 f fun g=>aT (g==1) (aM (decide (l_0.length+1<4611686018427387904)) (aT (l_9==l_0++[80]) (c1 (.call 24 [.p 0 0,vi 4] [.cells c []]) c.length [] fun h j=>aI h fun k => .call (.at_ 53 1 [true,false,true,false,true,false,true,true,false,false,true,false,false,true,false,true,true] (sv 100 [(0,.p 0 0),(2,vs l_0),(3,vb b_1),(9,vl b_2 l_3),(10,vi n_4),(11,vi n_5),(12,.p 1 0),(83,vb (decide (k>0)))]) [(9,11)] [.cells [vb b_6,vi n_7,vi g,vs l_9,vs l_10,vb b_11,vi n_12,vi n_13,vu n_14,vs l_15,vl b_16 l_17] [],.cells j []]) .ret) (aM (decide (l_0.length+1<4611686018427387904)) (aT (l_9==l_0++[85]) (c1 (.call 24 [.p 0 0,vi 4] [.cells c []]) c.length [] fun m n=>aI m fun o => .call (.at_ 53 1 [true,false,true,false,true,false,true,true,false,false,true,false,false,true,false,true,true] (sv 100 [(0,.p 0 0),(2,vs l_0),(3,vb b_1),(9,vl b_2 l_3),(10,vi n_4),(11,vi n_5),(12,.p 1 0),(83,vb (decide (o>0)))]) [(9,11)] [.cells [vb b_6,vi n_7,vi g,vs l_9,vs l_10,vb b_11,vi n_12,vi n_13,vu n_14,vs l_15,vl b_16 l_17] [],.cells n []]) .ret) (.call (.at_ 53 1 [true,false,true,false,true,false,true,true,false,false,true,false,false,true,false,true,true] (sv 100 [(0,.p 0 0),(2,vs l_0),(3,vb b_1),(9,vl b_2 l_3),(10,vi n_4),(11,vi n_5),(12,.p 1 0),(83,vb false)]) [(9,11)] [.cells [vb b_6,vi n_7,vi g,vs l_9,vs l_10,vb b_11,vi n_12,vi n_13,vu n_14,vs l_15,vl b_16 l_17] [],.cells c []]) .ret))))) (.call (.at_ 53 1 [true,false,true,false,true,false,true,true,false,false,true,false,false,true,false,true,true] (sv 100 [(0,.p 0 0),(2,vs l_0),(3,vb b_1),(9,vl b_2 l_3),(10,vi n_4),(11,vi n_5),(12,.p 1 0),(83,vb false)]) [(9,11)] [.cells [vb b_6,vi n_7,vi g,vs l_9,vs l_10,vb b_11,vi n_12,vi n_13,vu n_14,vs l_15,vl b_16 l_17] [],.cells c []]) .ret)) (.call (.at_ 53 1 [true,true,true,false,false,true,false,false,true,false,true,true] (sv 100 [(0,.p 0 0),(2,vs l_0),(3,vb b_1),(9,vl b_2 l_3),(10,vi n_4),(11,vi n_5),(12,.p 1 0)]) [(9,11)] [.cells [vb b_6,vi n_7,vi n_8,vs l_9,vs l_10,vb b_11,vi n_12,vi n_13,vu n_14,vs l_15,vl b_16 l_17] [],.cells l_18 []]) .ret)):=
 aF (by kernel_rfl)
theorem ix(l_0:List UInt8)(b_1 b_2:Bool)(l_3:List D)(n_4 n_5:Int)(b_6 b_7:Bool)(n_8 n_9:Int)(l_10 l_11:List UInt8)(b_12:Bool)(n_13 n_14 n_15:Int)(l_16:List UInt8)(b_17:Bool)(l_18:List D)(l_19:List V):rk Tryz.prog bn (.at_ 53 1 [true,false,true,false,true,false,true,true,false,false,true,false,false,true,false,true,true] (sv 100 [(0,.p 0 0),(2,vs l_0),(3,vb b_1),(9,vl b_2 l_3),(10,vi n_4),(11,vi n_5),(12,.p 1 0),(83,vb b_6)]) [(9,11)] [.cells [vb b_7,vi n_8,vi n_9,vs l_10,vs l_11,vb b_12,vi n_13,vi n_14,vu n_15,vs l_16,vl b_17 l_18] [],.cells l_19 []])=aC (rk Tryz.prog bn) (aT b_6 (c1 (.call 24 [.p 0 0,vi 6] [.cells l_19 []]) l_19.length [] fun a c=>aI a fun e=>aT (e==0) (c1 (.call 120 [.p 0 0,vs l_10,vs l_0] [.cells c []]) c.length [] fun f g=>aW f fun h=>xj 5 h fun j=>aM ([.d (j.getD 0 (.b false)),.d (j.getD 1 (.b false)),.d (j.getD 2 (.b false)),.d (j.getD 3 (.b false)),.d (j.getD 4 (.b false))].all V.one) (.call (.at_ 53 1 [true,true,true,false,false,true,false,false,true,false,true,true] (sv 100 [(0,.p 0 0),(2,vs l_0),(3,vb b_1),(9,vl b_2 l_3),(10,vi n_4),(11,vi n_5),(12,.p 1 0)]) [(9,11)] [.cells [vb b_7,vi n_8,vi 0,vs l_10,vs l_11,vb true,.d (j.getD 0 (.b false)),.d (j.getD 1 (.b false)),.d (j.getD 2 (.b false)),.d (j.getD 3 (.b false)),.d (j.getD 4 (.b false))] [],.cells g []]) .ret)) (.call (.at_ 53 1 [true,true,true,false,false,true,false,false,true,false,true,true] (sv 100 [(0,.p 0 0),(2,vs l_0),(3,vb b_1),(9,vl b_2 l_3),(10,vi n_4),(11,vi n_5),(12,.p 1 0)]) [(9,11)] [.cells [vb b_7,vi n_8,vi 0,vs l_10,vs l_11,vb b_12,vi n_13,vi n_14,vu n_15,vs l_16,vl b_17 l_18] [],.cells c []]) .ret)) (c1 (.call 24 [.p 0 0,vi 6] [.cells l_19 []]) l_19.length [] fun k m=>aI k fun n=>aT (n==0) (c1 (.call 120 [.p 0 0,vs l_10,vs l_0] [.cells m []]) m.length [] fun o q=>aW o fun r=>xj 5 r fun t=>aM ([.d (t.getD 0 (.b false)),.d (t.getD 1 (.b false)),.d (t.getD 2 (.b false)),.d (t.getD 3 (.b false)),.d (t.getD 4 (.b false))].all V.one) (.call (.at_ 53 1 [true,true,true,false,false,true,false,false,true,false,true,true] (sv 100 [(0,.p 0 0),(2,vs l_0),(3,vb b_1),(9,vl b_2 l_3),(10,vi n_4),(11,vi n_5),(12,.p 1 0)]) [(9,11)] [.cells [vb b_7,vi n_8,vi n_9,vs l_10,vs l_11,vb true,.d (t.getD 0 (.b false)),.d (t.getD 1 (.b false)),.d (t.getD 2 (.b false)),.d (t.getD 3 (.b false)),.d (t.getD 4 (.b false))] [],.cells q []]) .ret)) (.call (.at_ 53 1 [true,true,true,false,false,true,false,false,true,false,true,true] (sv 100 [(0,.p 0 0),(2,vs l_0),(3,vb b_1),(9,vl b_2 l_3),(10,vi n_4),(11,vi n_5),(12,.p 1 0)]) [(9,11)] [.cells [vb b_7,vi n_8,vi n_9,vs l_10,vs l_11,vb b_12,vi n_13,vi n_14,vu n_15,vs l_16,vl b_17 l_18] [],.cells m []]) .ret))):=
 aF (by kernel_rfl)
theorem Bv(l_0:List UInt8)(b_1 b_2:Bool)(l_3:List D)(n_4 n_5:Int)(b_6:Bool)(n_7 n_8:Int)(l_9 l_10:List UInt8)(b_11:Bool)(n_12 n_13 n_14:Int)(l_15:List UInt8)(b_16:Bool)(l_17:List D)(l_18:List V):rk Tryz.prog bn (.at_ 53 1 [true,true,true,false,false,true,false,false,true,false,true,true] (sv 100 [(0,.p 0 0),(2,vs l_0),(3,vb b_1),(9,vl b_2 l_3),(10,vi n_4),(11,vi n_5),(12,.p 1 0)]) [(9,11)] [.cells [vb b_6,vi n_7,vi n_8,vs l_9,vs l_10,vb b_11,vi n_12,vi n_13,vu n_14,vs l_15,vl b_16 l_17] [],.cells l_18 []])=aC (rk Tryz.prog bn) (aM (bw 11 l_3) (aM (b_2||true) (aM (decide (l_3.length+1<=4294967296)) (.call (.at_ 53 1 [false,true,false,true,true] (sv 100 [(0,.p 0 0),(2,vs l_0),(3,vb b_1),(9,vl (b_2&&false) (l_3++[.g [.b b_6,.i .i64 n_7,.i .i64 n_8,.s l_9,.s l_10,.b b_11,.i .i64 n_12,.i .i64 n_13,.i .u64 n_14,.s l_15,.l b_16 l_17]])),(10,vi (IntKind.i64.wrap (n_4+1))),(11,vi n_5)]) [(9,11)] [.cells l_18 []]) .ret)))):=
 aF (by kernel_rfl)
end Go.Dn.Dec
namespace Go.Dn.Dec
open Go.Proofs
set_option linter.unusedVariables false
set_option linter.unusedSimpArgs false
def dj(d:D):Prop:=∃(h:Bool) (id r:Int) (t nm:List UInt8) (hi:Bool) (k n u:Int) (s:List UInt8),
 d = .g [.b h,.i .i64 id,.i .i64 r,.s t,.s nm,.b hi,.i .i64 k,.i .i64 n,.i .u64 u,.s s,.l true []]/\0<=id/\id<=1000/\0<=r/\r<=2/\t.length<=442/\nm.length<=2/\
  (hi=true->1<=k)/\0<=k/\k<=5/\-1000<=n/\n<=1000/\0<=u/\u<18446744073709551616/\s.length<=103
theorem dj.width{d:D}(h:dj d):d.width=11:=by
 obtain⟨_,_,_,_,_,_,_,_,_,_,rfl,_⟩:=h;rfl
theorem oB{l:List D}(h:∀x∈l,dj x):bw 11 l=true:=by
 cases l with
 |nil=>rfl
 |cons x l=>
  have:=(h x (by simp)).width
  simp[bw,this]
theorem Gs{zs:List Int}{n:Nat}(h:Pk zs n)(s:List UInt8)(hs:s.length<=100):∃(t:List UInt8) (n':Nat),t.length<=442/\Pk zs n'/\
  rk Tryz.prog bn (Task.call 55 [V.p 0 0,V.d (D.s s),V.d (D.i .i64 0)] [pk zs n])=some (.d (.s t),[pk zs n']):=KQ zs n s h hs
theorem tO(zs:List Int)(s:List UInt8)(hs:s.length<=100)(N:Nat)(hN:N<=2):∀(m i n:Nat) (b:Bool) (l:List D),i+m=N->Pk zs n->l.length=i->(∀x∈l,dj x)->
  ∃(b':Bool) (l':List D) (n':Nat),l'.length<=2/\(∀x∈l',dj x)/\Pk zs n'/\
   rk Tryz.prog bn (Task.at_ 54 1 [false,true,false,true,true] (sv 31 [(0,V.p 0 0),(1,V.d (D.s s)),(5,V.d (D.l b l)),(6,V.d (D.i .i64 (i:Int))),(7,V.d (D.i .i64 (N:Int)))]) [(5,11)] [Ob.cells (fS zs n) []])=some (.d (.l b' l'),[pk zs n'])
 |0,i,n,b,l,e,h,hl,hf=>by
  refine⟨b,l,n,by omega,hf,h,?_⟩
  rw[zV,bc (by omega)];rfl
 |m+1,i,n,b,l,e,h,hl,hf=>by
  obtain⟨t,n2,ht,h2,hr⟩:=Gs h s hs
  have w1:IntKind.i64.wrap ((i:Int)+1)=((i+1:Nat):Int):=by rw[wrap_i64]<;>omega
  have hf':∀x∈l++[D.g [D.b true,D.i .i64 ((i+1:Nat):Int),D.i .i64 0,D.s t,D.s ([97]++[UInt8.ofNat (IntKind.u8.wrap (IntKind.i64.wrap (48+(i:Int)))).toNat]),D.b false,D.i .i64 0,D.i .i64 0,D.i .u64 0,D.s [],D.l true []]],dj x:=by
   intro x hx
   rcases List.mem_append.1 hx with hx|hx
   ·exact hf x hx
   ·simp only[List.mem_singleton]at hx
    subst hx
    exact⟨_,_,_,_,_,_,_,_,_,_,rfl,by omega,by omega,by omega,by omega,ht,by simp,by simp,by omega,by omega,by omega,by omega,by omega,by omega,by simp⟩
  obtain⟨b',l',n',q1,q2,q3,q4⟩:=tO zs s hs N hN m (i+1) n2 (b&&false) _ (by omega) h2 (by simp[hl]) hf'
  refine⟨b',l',n',q1,q2,q3,?_⟩
  rw[zV,bf (by omega),wW (m:=(fS zs n).length) (fl':=[]) hr rfl rfl,oB hf,ba,Bool.or_true,ba,aH (by omega),w1]
  exact bB q4
theorem IK{zs:List Int}{n:Nat}(h:Pk zs n)(s:List UInt8)(hs:s.length<=100):∃(b:Bool) (l:List D) (n':Nat),l.length<=2/\(∀x∈l,dj x)/\Pk zs n'/\
  rk Tryz.prog bn (Task.call 54 [V.p 0 0,V.d (D.s s)] [pk zs n])=some (.d (.l b l),[pk zs n']):=by
 obtain⟨k,n1,hk,h1,hr⟩:=eJ h (m:=3) 3 rfl (by omega) (by omega)
 obtain⟨b,l,n',q1,q2,q3,q4⟩:=tO zs s hs k (by omega) k 0 n1 true [] (by omega) h1 rfl (by simp)
 refine⟨b,l,n',q1,q2,q3,?_⟩
 rw[MH,cr (m:=2) (fl':=[]) hr rfl rfl]
 exact bB q4
end Go.Dn.Dec
namespace Go.Dn.Dec
open Go.Proofs
set_option linter.unusedVariables false
set_option linter.unusedSectionVars false
set_option linter.unusedSimpArgs false
theorem KK{f:Task->Option Out}{t:Task}{gs:List D}{cs:List V}{fl fl':Fl}{m w:Nat}{K:List V->List D->Tr}(h:f t=some (.d (.g gs),[.cells cs fl]))(hm:cs.length=m)(hf:(fl==fl')=true)(hw:gs.length=w):
  aC f (.call t fun o=>gE o.snd fun x l2=>fk x fun c g=>aM (c.length==m) (aM (g==fl') (jZ l2 (aW o.fst fun d=>xj w d fun y=>K c y))))=aC f (K cs gs):=by
 rw[cE h]
 show aC f (aM (cs.length==m) (aM (fl==fl') (xj w (.g gs) fun y=>K cs y)))=_
 rw[hm,beq_self_eq_true,ba,hf,ba,sn,if_pos hw]
def fw(zs:List Int)(t:Task):Prop:=∃(b':Bool) (l':List D) (n':Nat),l'.length<=5/\(∀x∈l',dj x)/\Pk zs n'/\rk Tryz.prog bn t=some (.d (.l b' l'),[pk zs n'])
abbrev fc(h:Bool)(id r:Int)(t nm:List UInt8)(hi:Bool)(k n u:Int)(s:List UInt8):Ob:=
 Ob.cells [V.d (D.b h),V.d (D.i .i64 id),V.d (D.i .i64 r),V.d (D.s t),V.d (D.s nm),V.d (D.b hi),V.d (D.i .i64 k),V.d (D.i .i64 n),V.d (D.i .u64 u),V.d (D.s s),V.d (D.l true [])] []
abbrev JV(s:List UInt8)(u b:Bool)(l:List D)(i N:Int)(o:Ob):Task:=
 Task.at_ 53 1 [false,true,false,true,true] (sv 100 [(0,V.p 0 0),(2,V.d (D.s s)),(3,V.d (D.b u)),(9,V.d (D.l b l)),(10,V.d (D.i .i64 i)),(11,V.d (D.i .i64 N))]) [(9,11)] [o]
abbrev JW(s:List UInt8)(u b:Bool)(l:List D)(i N:Int)(f o:Ob):Task:=
 Task.at_ 53 1 [true,true,true,false,false,true,false,false,true,false,true,true] (sv 100 [(0,V.p 0 0),(2,V.d (D.s s)),(3,V.d (D.b u)),(9,V.d (D.l b l)),(10,V.d (D.i .i64 i)),(11,V.d (D.i .i64 N)),(12,V.p 1 0)]) [(9,11)] [f,o]
abbrev KS(s:List UInt8)(u b:Bool)(l:List D)(i N:Int)(c:Bool)(f o:Ob):Task:=
 Task.at_ 53 1 [true,false,true,false,true,false,true,true,false,false,true,false,false,true,false,true,true] (sv 100 [(0,V.p 0 0),(2,V.d (D.s s)),(3,V.d (D.b u)),(9,V.d (D.l b l)),(10,V.d (D.i .i64 i)),(11,V.d (D.i .i64 N)),(12,V.p 1 0),(83,V.d (D.b c))]) [(9,11)] [f,o]
abbrev L0(s:List UInt8)(u b:Bool)(l:List D)(i N:Int)(f o:Ob):Task:=
 Task.at_ 53 1 [true,true,false,false,true,false,false,true,false,true,true] (sv 100 [(0,V.p 0 0),(2,V.d (D.s s)),(3,V.d (D.b u)),(9,V.d (D.l b l)),(10,V.d (D.i .i64 i)),(11,V.d (D.i .i64 N)),(12,V.p 1 0)]) [(9,11)] [f,o]
abbrev Ii(s:List UInt8)(u b:Bool)(l:List D)(i N:Int)(c:Bool)(o:Ob):Task:=
 Task.at_ 53 1 [true,false,false,false,true,false,true,true] (sv 100 [(0,V.p 0 0),(2,V.d (D.s s)),(3,V.d (D.b u)),(9,V.d (D.l b l)),(10,V.d (D.i .i64 i)),(11,V.d (D.i .i64 N)),(26,V.d (D.b c))]) [(9,11)] [o]
theorem fw.of_eq{zs:List Int}{t t2:Task}(h:fw zs t2)(e:rk Tryz.prog bn t=aC (rk Tryz.prog bn) (Tr.call t2 Tr.ret)):fw zs t:=by
 obtain⟨b,l,n,h1,h2,h3,h4⟩:=h
 exact⟨b,l,n,h1,h2,h3,by rw[e];exact bB h4⟩
section
variable {zs : List Int} {s : List UInt8} (hs : s.length ≤ 100) {u b : Bool} {l : List D} {i N : Nat} (hl : l.length = i) (hi5 : i < 5) (hf : ∀ x ∈ l, dj x)
include hs hl hi5 hf
theorem Jd{h:Bool}{id r:Int}{t nm:List UInt8}{hi:Bool}{k n u':Int}{s':List UInt8}{m:Nat}
  (hg:fw zs (JV s u (b&&false) (l++[D.g [.b h,.i .i64 id,.i .i64 r,.s t,.s nm,.b hi,.i .i64 k,.i .i64 n,.i .u64 u',.s s',.l true []]]) ((i+1:Nat):Int) (N:Int) (pk zs m))):
  fw zs (JW s u b l (i:Int) (N:Int) (fc h id r t nm hi k n u' s') (pk zs m)):=by
 refine hg.of_eq ?_
 have w1:IntKind.i64.wrap ((i:Int)+1)=((i+1:Nat):Int):=by rw[wrap_i64]<;>omega
 rw[Bv,oB hf,ba,Bool.or_true,ba,aH (by omega),w1]
def KX(zs:List Int)(s:List UInt8)(u b:Bool)(l:List D)(i N:Nat):Prop:=∀(x:D) (m:Nat),dj x->Pk zs m->fw zs (JV s u (b&&false) (l++[x]) ((i+1:Nat):Int) (N:Int) (pk zs m))
theorem LG(hN:KX zs s u b l i N){c h:Bool}{id r:Int}{t nm:List UInt8}{m:Nat}(hp:Pk zs m)(hid:0<=id/\id<=1000)(hr:0<=r/\r<=2)(ht:t.length<=442)(hnm:nm.length<=2):
  fw zs (KS s u b l (i:Int) (N:Int) c (fc h id r t nm false 0 0 0 []) (pk zs m)):=by
 obtain⟨k,m2,hk,h2,hr2⟩:=eJ hp (m:=6) 6 rfl (by omega) (by omega)
 obtain⟨d,m3,⟨ck,cn,cu,cs,rfl,q1,q2,q3,q4,q5,q6,q7⟩,h3,hr3⟩:=Jj h2 t s hs
 have plain:∀r':Int,0<=r'/\r'<=2->fw zs (JW s u b l (i:Int) (N:Int) (fc h id r' t nm false 0 0 0 []) (pk zs m2)):=fun r' hr'=>
  Jd hs hl hi5 hf (hN _ _ ⟨_,_,_,_,_,_,_,_,_,_,rfl,hid.1,hid.2,hr'.1,hr'.2,ht,hnm,by simp,by omega,by omega,by omega,by omega,by omega,by omega,by simp⟩ h2)
 have made:∀r':Int,0<=r'/\r'<=2->fw zs (JW s u b l (i:Int) (N:Int) (fc h id r' t nm true ck cn cu cs) (pk zs m3)):=fun r' hr'=>
  Jd hs hl hi5 hf (hN _ _ ⟨_,_,_,_,_,_,_,_,_,_,rfl,hid.1,hid.2,hr'.1,hr'.2,ht,hnm,fun _=>q1,by omega,q2,q3,q4,q5,q6,q7⟩ h3)
 cases c with
 |true=>
  by_cases hk0:k=0
  ·refine(made 0 (by omega)).of_eq ?_
   rw[ix,bk,cr (m:=(fS zs m).length) (fl':=[]) hr2 rfl rfl,cm (by omega),KK (m:=(fS zs m2).length) (fl':=[]) (w:=5) hr3 rfl rfl rfl]
   rfl
  ·refine(plain 0 (by omega)).of_eq ?_
   rw[ix,bk,cr (m:=(fS zs m).length) (fl':=[]) hr2 rfl rfl,bO (by omega)]
 |false=>
  by_cases hk0:k=0
  ·refine(made r hr).of_eq ?_
   rw[ix,aY,cr (m:=(fS zs m).length) (fl':=[]) hr2 rfl rfl,cm (by omega),KK (m:=(fS zs m2).length) (fl':=[]) (w:=5) hr3 rfl rfl rfl]
   rfl
  ·refine(plain r hr).of_eq ?_
   rw[ix,aY,cr (m:=(fS zs m).length) (fl':=[]) hr2 rfl rfl,bO (by omega)]
theorem Ku(hN:KX zs s u b l i N){h:Bool}{id:Int}{t nm:List UInt8}{m:Nat}(hp:Pk zs m)(hid:0<=id/\id<=1000)(ht:t.length<=442)(hnm:nm.length<=2):
  fw zs (L0 s u b l (i:Int) (N:Int) (fc h id 0 t nm false 0 0 0 []) (pk zs m)):=by
 cases hu:u with
 |true=>
  subst hu
  refine(Jd hs hl hi5 hf (hN _ _ ⟨h,id,0,t,nm,false,0,0,0,[],rfl,hid.1,hid.2,by omega,by omega,ht,hnm,by simp,by omega,by omega,by omega,by omega,by omega,by omega,by simp⟩ hp)).of_eq ?_
  rw[iU,jP]
 |false=>
  subst hu
  obtain⟨k,m2,hk,h2,hr2⟩:=eJ hp (m:=4) 4 rfl (by omega) (by omega)
  have hx:∃r:Int,([D.i IntKind.i64 0,D.i IntKind.i64 0,D.i IntKind.i64 1,D.i IntKind.i64 2]:List D)[k]?=some (.i .i64 r)/\0<=r/\r<=2:=by
   rcases k with _|_|_|_|k
   all_goals first
    |(refine⟨_,rfl,?_,?_⟩<;>omega)
    |omega
  obtain⟨r,hr,hr0⟩:=hx
  obtain⟨k3,m3,hk3,h3,hr3⟩:=eJ h2 (m:=4) 4 rfl (by omega) (by omega)
  have g:∀(c:Bool) (m':Nat),Pk zs m'->fw zs (KS s false b l (i:Int) (N:Int) c (fc h id r t nm false 0 0 0 []) (pk zs m')):=fun c m' hm'=>LG hs hl hi5 hf hN hm' hid hr0 ht hnm
  by_cases hr1:r=1
  ·by_cases hP:t=s++[80]
   ·refine(g (decide ((k3:Int)>0)) m3 h3).of_eq ?_
    rw[iU,iL,cr (m:=(fS zs m).length) (fl':=[]) hr2 rfl rfl,GF hr,cm hr1,aH (by omega),da (beq_iff_eq.2 hP),cr (m:=(fS zs m2).length) (fl':=[]) hr3 rfl rfl]
   ·by_cases hU:t=s++[85]
    ·refine(g (decide ((k3:Int)>0)) m3 h3).of_eq ?_
     rw[iU,iL,cr (m:=(fS zs m).length) (fl':=[]) hr2 rfl rfl,GF hr,cm hr1,aH (by omega),cj (beq_eq_false_iff_ne.2 hP),aH (by omega),da (beq_iff_eq.2 hU),cr (m:=(fS zs m2).length) (fl':=[]) hr3 rfl rfl]
    ·refine(g false m2 h2).of_eq ?_
     rw[iU,iL,cr (m:=(fS zs m).length) (fl':=[]) hr2 rfl rfl,GF hr,cm hr1,aH (by omega),cj (beq_eq_false_iff_ne.2 hP),aH (by omega),cj (beq_eq_false_iff_ne.2 hU)]
  ·refine(g false m2 h2).of_eq ?_
   rw[iU,iL,cr (m:=(fS zs m).length) (fl':=[]) hr2 rfl rfl,GF hr,bO hr1]
theorem LH(hN:KX zs s u b l i N){m:Nat}(hp:Pk zs m):fw zs (Ii s u b l (i:Int) (N:Int) true (pk zs m)):=by
 obtain⟨k,m2,hk,h2,hr2⟩:=eJ hp (m:=6) 6 rfl (by omega) (by omega)
 obtain⟨k3,m3,hk3,h3,hr3⟩:=eJ h2 (m:=3) 3 rfl (by omega) (by omega)
 obtain⟨t,m4,ht,h4,hr4⟩:=Gs h3 s hs
 have w1:IntKind.i64.wrap (1+(i:Int))=1+(i:Int):=by rw[wrap_i64]<;>omega
 have hik:(0:Int)<=(i:Int)*(k3:Int)/\(i:Int)*(k3:Int)<=12:=by
  have h1:(i:Int)*(k3:Int)=((i*k3:Nat):Int):=by push_cast;rfl
  have h2:i*k3<=4*3:=Nat.mul_le_mul (by omega) (by omega)
  omega
 have w2:IntKind.i64.wrap ((i:Int)*(k3:Int))=(i:Int)*(k3:Int):=by rw[wrap_i64]<;>omega
 have w3:IntKind.i64.wrap ((i:Int)*(k3:Int)*8)=(i:Int)*(k3:Int)*8:=by rw[wrap_i64]<;>omega
 have w4:IntKind.i64.wrap (1+(i:Int)+(i:Int)*(k3:Int)*8)=1+(i:Int)+(i:Int)*(k3:Int)*8:=by rw[wrap_i64]<;>omega
 by_cases hk0:(k:Int)>0
 ·refine(Ku hs hl hi5 hf hN (h:=decide ((k:Int)>0)) (id:=1+(i:Int)+(i:Int)*(k3:Int)*8) (t:=t) (nm:=[102]++[UInt8.ofNat (IntKind.u8.wrap (IntKind.i64.wrap (97+(i:Int)))).toNat]) h4 (by omega) ht (by simp)).of_eq ?_
  rw[p8,bk,cr (m:=(fS zs m).length) (fl':=[]) hr2 rfl rfl,cr (m:=(fS zs m2).length) (fl':=[]) hr3 rfl rfl,wW (m:=(fS zs m3).length) (fl':=[]) hr4 rfl rfl,cj (by simpa using hk0),w1,w2,w3,w4]
 ·refine(Ku hs hl hi5 hf hN (h:=decide ((k:Int)>0)) (id:=0) (t:=t) (nm:=[102]++[UInt8.ofNat (IntKind.u8.wrap (IntKind.i64.wrap (97+(i:Int)))).toNat]) h4 (by omega) ht (by simp)).of_eq ?_
  rw[p8,bk,cr (m:=(fS zs m).length) (fl':=[]) hr2 rfl rfl,cr (m:=(fS zs m2).length) (fl':=[]) hr3 rfl rfl,wW (m:=(fS zs m3).length) (fl':=[]) hr4 rfl rfl,da (by simpa using hk0)]
end
theorem yb{zs:List Int}{s:List UInt8}{u b:Bool}{l:List D}{i N:Int}(hl:l.length<=5)(hf:∀x∈l,dj x){m:Nat}(hp:Pk zs m):fw zs (Ii s u b l i N false (pk zs m)):=
 ⟨b,l,m,hl,hf,hp,by rw[p8,aY];rfl⟩
theorem Kv{zs:List Int}{s:List UInt8}(hs:s.length<=100)(u:Bool){N:Nat}(hN:N<=5):∀(j i:Nat) (b:Bool) (l:List D) (m:Nat),i+j=max N 1->l.length=i->(∀x∈l,dj x)->Pk zs m->
  fw zs (JV s u b l (i:Int) (N:Int) (pk zs m))
 |0,i,b,l,m,e,hl,hf,hp=>by
  have hend:fw zs (Ii s u b l (i:Int) (N:Int) false (pk zs m)):=yb (by omega) hf hp
  refine hend.of_eq ?_
  cases u with
  |true=>
   have e0:((i:Int)==0)=false:=beq_eq_false_iff_ne.2 (by omega)
   rw[lT,bc (by omega),bk,e0]
  |false=>rw[lT,bc (by omega),aY]
 |j+1,i,b,l,m,e,hl,hf,hp=>by
  have nx:KX zs s u b l i N:=fun x m' hx hm'=>Kv hs u hN j (i+1) (b&&false) (l++[x]) m' (by omega) (by simp[hl]) (fun y hy=>by
   rcases List.mem_append.1 hy with hy|hy
   ·exact hf y hy
   ·simp only[List.mem_singleton]at hy;subst hy;exact hx) hm'
  have good:fw zs (Ii s u b l (i:Int) (N:Int) true (pk zs m)):=LH hs hl (by omega) hf nx hp
  by_cases hi:i<N
  ·refine good.of_eq ?_
   rw[lT,bf (by omega)]
  ·cases u with
   |true=>
    refine good.of_eq ?_
    have e0:((i:Int)==0)=true:=beq_iff_eq.2 (by omega)
    rw[lT,bc (by omega),bk,e0]
   |false=>
    refine(yb (u:=false) (s:=s) (b:=b) (i:=(i:Int)) (N:=(N:Int)) (by omega) hf hp).of_eq ?_
    rw[lT,bc (by omega),aY]
theorem ov{zs:List Int}{n:Nat}(h:Pk zs n)(M:Int){most:Nat}(hM:M=(most:Int))(hm:most<=5)(s:List UInt8)(hs:s.length<=100)(u:Bool):∃(b:Bool) (l:List D) (n':Nat),l.length<=5/\(∀x∈l,dj x)/\Pk zs n'/\
  rk Tryz.prog bn (Task.call 53 [V.p 0 0,V.d (D.i .i64 M),V.d (D.s s),V.d (D.b u)] [pk zs n])=some (.d (.l b l),[pk zs n']):=by
 subst hM
 have w1:IntKind.i64.wrap ((most:Int)+1)=((most+1:Nat):Int):=by rw[wrap_i64]<;>omega
 obtain⟨k,n1,hk,h1,hr⟩:=eJ h (m:=most+1) _ rfl (by omega) (by omega)
 obtain⟨b,l,n',q1,q2,q3,q4⟩:=Kv hs u (N:=k) (by omega) (max k 1) 0 true [] n1 (by omega) rfl (by simp) h1
 refine⟨b,l,n',q1,q2,q3,?_⟩
 rw[MG,w1,cr (m:=2) (fl':=[]) hr rfl rfl]
 exact bB q4
end Go.Dn.Dec
namespace Go.Dn.Dec
open Go.Proofs
theorem ME(f:Bool)(l:List D)(n:Int):rk Tryz.prog bn (.call 26 [.p 0 0] [.cells [vl f l,vi n] []])=aC (rk Tryz.prog bn) (c1 (.call 24 [.p 0 0,vi 3] [.cells [vl f l,vi n] []]) 2 [] fun a c=>aI a fun e => .call (.at_ 26 1 [false,true,false,true,true] (sv 83 [(0,.p 0 0),(3,.p 1 0),(4,vi 0),(5,vi e)]) [] [.cells [vi 2,vs [69],vs [],vi 0,vi 0,vu 0,vs [],vl true [],vl true [],vl true [.g [.s [65],.b false,.i .i64 0]],vs [],vl true []] [(9,3)],.cells c []]) .ret):=
 aF (by kernel_rfl)
theorem MD(f:Bool)(l:List D)(n:Int)(s:List UInt8):rk Tryz.prog bn (.call 25 [.p 0 0,vs s] [.cells [vl f l,vi n] []])=aC (rk Tryz.prog bn) (c1 (.call 53 [.p 0 0,vi 5,vs s,vb false] [.cells [vl f l,vi n] []]) 2 [] fun a c=>aL a fun e g=>c1 (.call 53 [.p 0 0,vi 2,vs s,vb false] [.cells c []]) c.length [] fun h j=>aL h fun k m=>c1 (.call 24 [.p 0 0,vi 4] [.cells j []]) j.length [] fun o q=>aI o fun r => .call (.at_ 25 1 [false,true,false,true,true,true,true] (sv 72 [(0,.p 0 0),(1,vs s),(5,.p 1 0),(6,.p 2 0),(7,.p 3 0),(8,vi 0),(9,vi r)]) [] [.cells [vi 7,vs [86],vs [],vi 0,vi 0,vu 0,vs [],vl true [],vl true [],vl true [],vs [],vl true []] [(11,5)],.cells [vi 6,vs [88],vs [],vi 0,vi 0,vu 0,vs [],vl true [],vl k m,vl true [],vs [],vl true []] [],.cells [vi 4,vs [81],vs [],vi 0,vi 0,vu 0,vs [],vl true [],vl e g,vl true [],vs [],vl true []] [],.cells q []]) .ret):=
 aF (by kernel_rfl)
theorem Mk(f:Bool)(l:List D)(n:Int):rk Tryz.prog bn (.call 11 [.p 0 0] [.cells [vl f l,vi n] []])=aC (rk Tryz.prog bn) (c1 (.call 24 [.p 0 0,vi 3] [.cells [vl f l,vi n] []]) 2 [] fun a b=>aI a fun c=>aT (c==0) (c1 (.call 25 [.p 0 0,vs [98,97,115,101,46]] [.cells b []]) b.length [] fun e h=>aL e fun j k=>c1 (.call 26 [.p 0 0] [.cells h []]) h.length [] fun m o=>aL m fun q r => .ret (vl true [.g [.l true [.s [98,97,115,101]],.l true [.g [.s [103,111],.s [97,46,98]]],.l j k],.g [.l true [],.l true [],.l q r]],[.cells o []])) (c1 (.call 26 [.p 0 0] [.cells b []]) b.length [] fun t zu=>aL t fun v w=>c1 (.call 25 [.p 0 0,vs []] [.cells zu []]) zu.length [] fun x y=>aL x fun z a0=>aM v (aM (bw 12 w) (aM (bw 12 a0) (aM (v||gM a0) (aM (decide (w.length+a0.length<=4294967296)) (.ret (vl true [.g [.l true [],.l true [],.l (v&&a0.isEmpty) (w++a0)]],[.cells y []])))))))):=
 aF (by kernel_rfl)
theorem j7(n_0 n_1 n_2:Int)(l_3 l_4:List UInt8)(n_5 n_6 n_7:Int)(l_8:List UInt8)(b_9:Bool)(l_10:List D)(b_11:Bool)(l_12:List D)(b_13:Bool)(l_14:List D)(l_15:List UInt8)(b_16:Bool)(l_17:List D)(l_18:List V):rk Tryz.prog bn (.at_ 26 1 [false,true,false,true,true] (sv 83 [(0,.p 0 0),(3,.p 1 0),(4,vi n_0),(5,vi n_1)]) [] [.cells [vi n_2,vs l_3,vs l_4,vi n_5,vi n_6,vu n_7,vs l_8,vl b_9 l_10,vl b_11 l_12,vl b_13 l_14,vs l_15,vl b_16 l_17] [(9,3)],.cells l_18 []])=aC (rk Tryz.prog bn) (aT (decide (n_0<n_1)) (c1 (.call 24 [.p 0 0,vi 2] [.cells l_18 []]) l_18.length [] fun a c=>aI a fun e=>aT (e==0) (c1 (.call 24 [.p 0 0,vi 9] [.cells c []]) c.length [] fun f h=>aI f fun j => .call (.at_ 26 1 [true,true,false,false,true,false,false,true,false,true,true] (sv 83 [(0,.p 0 0),(3,.p 1 0),(4,vi n_0),(5,vi n_1),(6,.p 2 0)]) [] [.cells [vs [UInt8.ofNat (IntKind.u8.wrap (IntKind.i64.wrap (66+n_0))).toNat],vb true,vi (IntKind.i64.wrap (IntKind.i64.wrap (5+IntKind.i64.wrap (10*n_0))+j))] [],.cells [vi n_2,vs l_3,vs l_4,vi n_5,vi n_6,vu n_7,vs l_8,vl b_9 l_10,vl b_11 l_12,vl b_13 l_14,vs l_15,vl b_16 l_17] [(9,3)],.cells h []]) .ret) (.call (.at_ 26 1 [true,true,false,false,true,false,false,true,false,true,true] (sv 83 [(0,.p 0 0),(3,.p 1 0),(4,vi n_0),(5,vi n_1),(6,.p 2 0)]) [] [.cells [vs [UInt8.ofNat (IntKind.u8.wrap (IntKind.i64.wrap (66+n_0))).toNat],vb false,vi 0] [],.cells [vi n_2,vs l_3,vs l_4,vi n_5,vi n_6,vu n_7,vs l_8,vl b_9 l_10,vl b_11 l_12,vl b_13 l_14,vs l_15,vl b_16 l_17] [(9,3)],.cells c []]) .ret)) (c1 (.call 24 [.p 0 0,vi 4] [.cells l_18 []]) l_18.length [] fun k m=>aI k fun n=>eC [.s [105,51,50],.s [108,105,115,116,60,69,62],.s [115,116,114,105,110,103],.s [109,97,112,60,115,116,114,105,110,103,44,105,54,52,62]] n 1 0 fun o=>fF o fun q=>aT (q==[105,51,50]) (c1 (.call 24 [.p 0 0,vi 99] [.cells m []]) m.length [] fun r t=>aI r fun zu => .call (.at_ 26 1 [true,true,true,true,true,true] (sv 83 [(0,.p 0 0),(3,.p 1 0),(7,.p 2 0),(8,.p 3 0)]) [] [.cells [vi 3,vs [67],vs [84],vi 1,vi zu,vu 0,vs [],vl true [],vl true [],vl true [],vs [],vl true []] [],.cells [vi 1,vs [84],vs q,vi 0,vi 0,vu 0,vs [],vl true [],vl true [],vl true [],vs [],vl true []] [],.cells [vi n_2,vs l_3,vs l_4,vi n_5,vi n_6,vu n_7,vs l_8,vl b_9 l_10,vl b_11 l_12,vl b_13 l_14,vs l_15,vl b_16 l_17] [(9,3)],.cells t []]) .ret) (aT (q==[108,105,115,116,60,69,62]) (.call (.at_ 26 1 [true,true,true,true,true,true] (sv 83 [(0,.p 0 0),(3,.p 1 0),(7,.p 2 0),(8,.p 3 0)]) [] [.cells [vi 3,vs [67],vs [84],vi 5,vi 0,vu 0,vs [],vl true [.g [.i .i64 4,.i .i64 0,.i .u64 0,.s [69,46,65],.l true []],.g [.i .i64 1,.i .i64 0,.i .u64 0,.s [],.l true []]],vl true [],vl true [],vs [],vl true []] [],.cells [vi 1,vs [84],vs q,vi 0,vi 0,vu 0,vs [],vl true [],vl true [],vl true [],vs [],vl true []] [],.cells [vi n_2,vs l_3,vs l_4,vi n_5,vi n_6,vu n_7,vs l_8,vl b_9 l_10,vl b_11 l_12,vl b_13 l_14,vs l_15,vl b_16 l_17] [(9,3)],.cells m []]) .ret) (aT (q==[115,116,114,105,110,103]) (.call (.at_ 26 1 [true,true,true,true,true,true] (sv 83 [(0,.p 0 0),(3,.p 1 0),(7,.p 2 0),(8,.p 3 0)]) [] [.cells [vi 3,vs [67],vs [84],vi 3,vi 0,vu 0,vs [99],vl true [],vl true [],vl true [],vs [],vl true []] [],.cells [vi 1,vs [84],vs q,vi 0,vi 0,vu 0,vs [],vl true [],vl true [],vl true [],vs [],vl true []] [],.cells [vi n_2,vs l_3,vs l_4,vi n_5,vi n_6,vu n_7,vs l_8,vl b_9 l_10,vl b_11 l_12,vl b_13 l_14,vs l_15,vl b_16 l_17] [(9,3)],.cells m []]) .ret) (.call (.at_ 26 1 [true,true,true,true,true,true] (sv 83 [(0,.p 0 0),(3,.p 1 0),(7,.p 2 0),(8,.p 3 0)]) [] [.cells [vi 3,vs [67],vs [84],vi 5,vi 0,vu 0,vs [],vl true [],vl true [],vl true [],vs [],vl true []] [],.cells [vi 1,vs [84],vs q,vi 0,vi 0,vu 0,vs [],vl true [],vl true [],vl true [],vs [],vl true []] [],.cells [vi n_2,vs l_3,vs l_4,vi n_5,vi n_6,vu n_7,vs l_8,vl b_9 l_10,vl b_11 l_12,vl b_13 l_14,vs l_15,vl b_16 l_17] [(9,3)],.cells m []]) .ret))))):=
 aF (by kernel_rfl)
theorem j6(l_0:List UInt8)(n_1 n_2 n_3:Int)(l_4 l_5:List UInt8)(n_6 n_7 n_8:Int)(l_9:List UInt8)(b_10:Bool)(l_11:List D)(b_12:Bool)(l_13:List D)(b_14:Bool)(l_15:List D)(l_16:List UInt8)(b_17:Bool)(l_18:List D)(n_19:Int)(l_20 l_21:List UInt8)(n_22 n_23 n_24:Int)(l_25:List UInt8)(b_26:Bool)(l_27:List D)(b_28:Bool)(l_29:List D)(b_30:Bool)(l_31:List D)(l_32:List UInt8)(b_33:Bool)(l_34:List D)(n_35:Int)(l_36 l_37:List UInt8)(n_38 n_39 n_40:Int)(l_41:List UInt8)(b_42:Bool)(l_43:List D)(b_44:Bool)(l_45:List D)(b_46:Bool)(l_47:List D)(l_48:List UInt8)(b_49:Bool)(l_50:List D)(l_51:List V):rk Tryz.prog bn (.at_ 25 1 [false,true,false,true,true,true,true] (sv 72 [(0,.p 0 0),(1,vs l_0),(5,.p 1 0),(6,.p 2 0),(7,.p 3 0),(8,vi n_1),(9,vi n_2)]) [] [.cells [vi n_3,vs l_4,vs l_5,vi n_6,vi n_7,vu n_8,vs l_9,vl b_10 l_11,vl b_12 l_13,vl b_14 l_15,vs l_16,vl b_17 l_18] [(11,5)],.cells [vi n_19,vs l_20,vs l_21,vi n_22,vi n_23,vu n_24,vs l_25,vl b_26 l_27,vl b_28 l_29,vl b_30 l_31,vs l_32,vl b_33 l_34] [],.cells [vi n_35,vs l_36,vs l_37,vi n_38,vi n_39,vu n_40,vs l_41,vl b_42 l_43,vl b_44 l_45,vl b_46 l_47,vs l_48,vl b_49 l_50] [],.cells l_51 []])=aC (rk Tryz.prog bn) (aT (decide (n_1<n_2)) (c1 (.call 54 [.p 0 0,vs l_0] [.cells l_51 []]) l_51.length [] fun a c=>aL a fun e f=>c1 (.call 24 [.p 0 0,vi 4] [.cells c []]) c.length [] fun h j=>aI h fun k=>aT (k==0) (.call (.at_ 25 1 [true,true,false,false,true,false,false,true,false,true,true,true,true] (sv 72 [(0,.p 0 0),(1,vs l_0),(5,.p 1 0),(6,.p 2 0),(7,.p 3 0),(8,vi n_1),(9,vi n_2),(10,.p 4 0)]) [] [.cells [vs ([109]++[UInt8.ofNat (IntKind.u8.wrap (IntKind.i64.wrap (48+n_1))).toNat]),vb true,vs [118,111,105,100],vl e f,vl true []] [],.cells [vi n_3,vs l_4,vs l_5,vi n_6,vi n_7,vu n_8,vs l_9,vl b_10 l_11,vl b_12 l_13,vl b_14 l_15,vs l_16,vl b_17 l_18] [(11,5)],.cells [vi n_19,vs l_20,vs l_21,vi n_22,vi n_23,vu n_24,vs l_25,vl b_26 l_27,vl b_28 l_29,vl b_30 l_31,vs l_32,vl b_33 l_34] [],.cells [vi n_35,vs l_36,vs l_37,vi n_38,vi n_39,vu n_40,vs l_41,vl b_42 l_43,vl b_44 l_45,vl b_46 l_47,vs l_48,vl b_49 l_50] [],.cells j []]) .ret) (aT (k==1) (.call (.at_ 25 1 [true,true,false,false,true,false,false,true,false,true,true,true,true] (sv 72 [(0,.p 0 0),(1,vs l_0),(5,.p 1 0),(6,.p 2 0),(7,.p 3 0),(8,vi n_1),(9,vi n_2),(10,.p 4 0)]) [] [.cells [vs ([109]++[UInt8.ofNat (IntKind.u8.wrap (IntKind.i64.wrap (48+n_1))).toNat]),vb false,vs [118,111,105,100],vl e f,vl true [.g [.b true,.i .i64 1,.i .i64 0,.s [88],.s [120],.b false,.i .i64 0,.i .i64 0,.i .u64 0,.s [],.l true []]]] [],.cells [vi n_3,vs l_4,vs l_5,vi n_6,vi n_7,vu n_8,vs l_9,vl b_10 l_11,vl b_12 l_13,vl b_14 l_15,vs l_16,vl b_17 l_18] [(11,5)],.cells [vi n_19,vs l_20,vs l_21,vi n_22,vi n_23,vu n_24,vs l_25,vl b_26 l_27,vl b_28 l_29,vl b_30 l_31,vs l_32,vl b_33 l_34] [],.cells [vi n_35,vs l_36,vs l_37,vi n_38,vi n_39,vu n_40,vs l_41,vl b_42 l_43,vl b_44 l_45,vl b_46 l_47,vs l_48,vl b_49 l_50] [],.cells j []]) .ret) (c1 (.call 55 [.p 0 0,vs l_0,vi 0] [.cells j []]) j.length [] fun m n=>aS m fun o=>c1 (.call 24 [.p 0 0,vi 2] [.cells n []]) n.length [] fun q r=>aI q fun t=>aT (t==0) (.call (.at_ 25 1 [true,true,false,false,true,false,false,true,false,true,true,true,true] (sv 72 [(0,.p 0 0),(1,vs l_0),(5,.p 1 0),(6,.p 2 0),(7,.p 3 0),(8,vi n_1),(9,vi n_2),(10,.p 4 0)]) [] [.cells [vs ([109]++[UInt8.ofNat (IntKind.u8.wrap (IntKind.i64.wrap (48+n_1))).toNat]),vb false,vs o,vl e f,vl true [.g [.b true,.i .i64 1,.i .i64 0,.s [88],.s [120],.b false,.i .i64 0,.i .i64 0,.i .u64 0,.s [],.l true []]]] [],.cells [vi n_3,vs l_4,vs l_5,vi n_6,vi n_7,vu n_8,vs l_9,vl b_10 l_11,vl b_12 l_13,vl b_14 l_15,vs l_16,vl b_17 l_18] [(11,5)],.cells [vi n_19,vs l_20,vs l_21,vi n_22,vi n_23,vu n_24,vs l_25,vl b_26 l_27,vl b_28 l_29,vl b_30 l_31,vs l_32,vl b_33 l_34] [],.cells [vi n_35,vs l_36,vs l_37,vi n_38,vi n_39,vu n_40,vs l_41,vl b_42 l_43,vl b_44 l_45,vl b_46 l_47,vs l_48,vl b_49 l_50] [],.cells r []]) .ret) (.call (.at_ 25 1 [true,true,false,false,true,false,false,true,false,true,true,true,true] (sv 72 [(0,.p 0 0),(1,vs l_0),(5,.p 1 0),(6,.p 2 0),(7,.p 3 0),(8,vi n_1),(9,vi n_2),(10,.p 4 0)]) [] [.cells [vs ([109]++[UInt8.ofNat (IntKind.u8.wrap (IntKind.i64.wrap (48+n_1))).toNat]),vb false,vs o,vl e f,vl true []] [],.cells [vi n_3,vs l_4,vs l_5,vi n_6,vi n_7,vu n_8,vs l_9,vl b_10 l_11,vl b_12 l_13,vl b_14 l_15,vs l_16,vl b_17 l_18] [(11,5)],.cells [vi n_19,vs l_20,vs l_21,vi n_22,vi n_23,vu n_24,vs l_25,vl b_26 l_27,vl b_28 l_29,vl b_30 l_31,vs l_32,vl b_33 l_34] [],.cells [vi n_35,vs l_36,vs l_37,vi n_38,vi n_39,vu n_40,vs l_41,vl b_42 l_43,vl b_44 l_45,vl b_46 l_47,vs l_48,vl b_49 l_50] [],.cells r []]) .ret)))) (.ret (vl true [.g [.i .i64 n_35,.s l_36,.s l_37,.i .i64 n_38,.i .i64 n_39,.i .u64 n_40,.s l_41,.l b_42 l_43,.l b_44 l_45,.l b_46 l_47,.s l_48,.l b_49 l_50],.g [.i .i64 n_19,.s l_20,.s l_21,.i .i64 n_22,.i .i64 n_23,.i .u64 n_24,.s l_25,.l b_26 l_27,.l b_28 l_29,.l b_30 l_31,.s l_32,.l b_33 l_34],.g [.i .i64 n_3,.s l_4,.s l_5,.i .i64 n_6,.i .i64 n_7,.i .u64 n_8,.s l_9,.l b_10 l_11,.l b_12 l_13,.l b_14 l_15,.s l_16,.l b_17 l_18],.g [.i .i64 7,.s [87],.s [],.i .i64 0,.i .i64 0,.i .u64 0,.s [],.l true [],.l true [],.l true [],.s [86],.l true [.g [.s [111,119,110],.b false,.s [105,51,50],.l true [],.l true []]]]],[.cells l_51 []]))):=
 aF (by kernel_rfl)
theorem Bu(n_0 n_1:Int)(l_2:List UInt8)(b_3:Bool)(n_4 n_5:Int)(l_6 l_7:List UInt8)(n_8 n_9 n_10:Int)(l_11:List UInt8)(b_12:Bool)(l_13:List D)(b_14:Bool)(l_15:List D)(b_16:Bool)(l_17:List D)(l_18:List UInt8)(b_19:Bool)(l_20:List D)(l_21:List V):rk Tryz.prog bn (.at_ 26 1 [true,true,false,false,true,false,false,true,false,true,true] (sv 83 [(0,.p 0 0),(3,.p 1 0),(4,vi n_0),(5,vi n_1),(6,.p 2 0)]) [] [.cells [vs l_2,vb b_3,vi n_4] [],.cells [vi n_5,vs l_6,vs l_7,vi n_8,vi n_9,vu n_10,vs l_11,vl b_12 l_13,vl b_14 l_15,vl b_16 l_17,vs l_18,vl b_19 l_20] [(9,3)],.cells l_21 []])=aC (rk Tryz.prog bn) (aM (bw 3 l_17) (aM (b_16||true) (aM (decide (l_17.length+1<=4294967296)) (.call (.at_ 26 1 [false,true,false,true,true] (sv 83 [(0,.p 0 0),(3,.p 1 0),(4,vi (IntKind.i64.wrap (n_0+1))),(5,vi n_1)]) [] [.cells [vi n_5,vs l_6,vs l_7,vi n_8,vi n_9,vu n_10,vs l_11,vl b_12 l_13,vl b_14 l_15,vl (b_16&&false) (l_17++[.g [.s l_2,.b b_3,.i .i64 n_4]]),vs l_18,vl b_19 l_20] [(9,3)],.cells l_21 []]) .ret)))):=
 aF (by kernel_rfl)
theorem D7(n_0:Int)(l_1 l_2:List UInt8)(n_3 n_4 n_5:Int)(l_6:List UInt8)(b_7:Bool)(l_8:List D)(b_9:Bool)(l_10:List D)(b_11:Bool)(l_12:List D)(l_13:List UInt8)(b_14:Bool)(l_15:List D)(n_16:Int)(l_17 l_18:List UInt8)(n_19 n_20 n_21:Int)(l_22:List UInt8)(b_23:Bool)(l_24:List D)(b_25:Bool)(l_26:List D)(b_27:Bool)(l_28:List D)(l_29:List UInt8)(b_30:Bool)(l_31:List D)(n_32:Int)(l_33 l_34:List UInt8)(n_35 n_36 n_37:Int)(l_38:List UInt8)(b_39:Bool)(l_40:List D)(b_41:Bool)(l_42:List D)(b_43:Bool)(l_44:List D)(l_45:List UInt8)(b_46:Bool)(l_47:List D)(l_48:List V):rk Tryz.prog bn (.at_ 26 1 [true,true,true,true,true,true] (sv 83 [(0,.p 0 0),(3,.p 1 0),(7,.p 2 0),(8,.p 3 0)]) [] [.cells [vi n_0,vs l_1,vs l_2,vi n_3,vi n_4,vu n_5,vs l_6,vl b_7 l_8,vl b_9 l_10,vl b_11 l_12,vs l_13,vl b_14 l_15] [],.cells [vi n_16,vs l_17,vs l_18,vi n_19,vi n_20,vu n_21,vs l_22,vl b_23 l_24,vl b_25 l_26,vl b_27 l_28,vs l_29,vl b_30 l_31] [],.cells [vi n_32,vs l_33,vs l_34,vi n_35,vi n_36,vu n_37,vs l_38,vl b_39 l_40,vl b_41 l_42,vl b_43 l_44,vs l_45,vl b_46 l_47] [(9,3)],.cells l_48 []])=aC (rk Tryz.prog bn) (c1 (.call 53 [.p 0 0,vi 4,vs [],vb false] [.cells l_48 []]) l_48.length [] fun a c=>aL a fun e f=>c1 (.call 53 [.p 0 0,vi 3,vs [],vb true] [.cells c []]) c.length [] fun h j=>aL h fun k m => .ret (vl true [.g [.i .i64 n_32,.s l_33,.s l_34,.i .i64 n_35,.i .i64 n_36,.i .u64 n_37,.s l_38,.l b_39 l_40,.l b_41 l_42,.l b_43 l_44,.s l_45,.l b_46 l_47],.g [.i .i64 n_16,.s l_17,.s l_18,.i .i64 n_19,.i .i64 n_20,.i .u64 n_21,.s l_22,.l b_23 l_24,.l b_25 l_26,.l b_27 l_28,.s l_29,.l b_30 l_31],.g [.i .i64 n_0,.s l_1,.s l_2,.i .i64 n_3,.i .i64 n_4,.i .u64 n_5,.s l_6,.l b_7 l_8,.l b_9 l_10,.l b_11 l_12,.s l_13,.l b_14 l_15],.g [.i .i64 4,.s [80],.s [],.i .i64 0,.i .i64 0,.i .u64 0,.s [],.l true [],.l e f,.l true [],.s [],.l true []],.g [.i .i64 5,.s [85],.s [],.i .i64 0,.i .i64 0,.i .u64 0,.s [],.l true [],.l k m,.l true [],.s [],.l true []]],[.cells j []])):=
 aF (by kernel_rfl)
theorem zU(l_0:List UInt8)(n_1 n_2:Int)(l_3:List UInt8)(b_4:Bool)(l_5:List UInt8)(b_6:Bool)(l_7:List D)(b_8:Bool)(l_9:List D)(n_10:Int)(l_11 l_12:List UInt8)(n_13 n_14 n_15:Int)(l_16:List UInt8)(b_17:Bool)(l_18:List D)(b_19:Bool)(l_20:List D)(b_21:Bool)(l_22:List D)(l_23:List UInt8)(b_24:Bool)(l_25:List D)(n_26:Int)(l_27 l_28:List UInt8)(n_29 n_30 n_31:Int)(l_32:List UInt8)(b_33:Bool)(l_34:List D)(b_35:Bool)(l_36:List D)(b_37:Bool)(l_38:List D)(l_39:List UInt8)(b_40:Bool)(l_41:List D)(n_42:Int)(l_43 l_44:List UInt8)(n_45 n_46 n_47:Int)(l_48:List UInt8)(b_49:Bool)(l_50:List D)(b_51:Bool)(l_52:List D)(b_53:Bool)(l_54:List D)(l_55:List UInt8)(b_56:Bool)(l_57:List D)(l_58:List V):rk Tryz.prog bn (.at_ 25 1 [true,true,false,false,true,false,false,true,false,true,true,true,true] (sv 72 [(0,.p 0 0),(1,vs l_0),(5,.p 1 0),(6,.p 2 0),(7,.p 3 0),(8,vi n_1),(9,vi n_2),(10,.p 4 0)]) [] [.cells [vs l_3,vb b_4,vs l_5,vl b_6 l_7,vl b_8 l_9] [],.cells [vi n_10,vs l_11,vs l_12,vi n_13,vi n_14,vu n_15,vs l_16,vl b_17 l_18,vl b_19 l_20,vl b_21 l_22,vs l_23,vl b_24 l_25] [(11,5)],.cells [vi n_26,vs l_27,vs l_28,vi n_29,vi n_30,vu n_31,vs l_32,vl b_33 l_34,vl b_35 l_36,vl b_37 l_38,vs l_39,vl b_40 l_41] [],.cells [vi n_42,vs l_43,vs l_44,vi n_45,vi n_46,vu n_47,vs l_48,vl b_49 l_50,vl b_51 l_52,vl b_53 l_54,vs l_55,vl b_56 l_57] [],.cells l_58 []])=aC (rk Tryz.prog bn) (aM (bw 5 l_25) (aM (b_24||true) (aM (decide (l_25.length+1<=4294967296)) (.call (.at_ 25 1 [false,true,false,true,true,true,true] (sv 72 [(0,.p 0 0),(1,vs l_0),(5,.p 1 0),(6,.p 2 0),(7,.p 3 0),(8,vi (IntKind.i64.wrap (n_1+1))),(9,vi n_2)]) [] [.cells [vi n_10,vs l_11,vs l_12,vi n_13,vi n_14,vu n_15,vs l_16,vl b_17 l_18,vl b_19 l_20,vl b_21 l_22,vs l_23,vl (b_24&&false) (l_25++[.g [.s l_3,.b b_4,.s l_5,.l b_6 l_7,.l b_8 l_9]])] [(11,5)],.cells [vi n_26,vs l_27,vs l_28,vi n_29,vi n_30,vu n_31,vs l_32,vl b_33 l_34,vl b_35 l_36,vl b_37 l_38,vs l_39,vl b_40 l_41] [],.cells [vi n_42,vs l_43,vs l_44,vi n_45,vi n_46,vu n_47,vs l_48,vl b_49 l_50,vl b_51 l_52,vl b_53 l_54,vs l_55,vl b_56 l_57] [],.cells l_58 []]) .ret)))):=
 aF (by kernel_rfl)
end Go.Dn.Dec
namespace Go.Dn.Dec
open Go.Proofs
set_option linter.unusedVariables false
set_option linter.unusedSimpArgs false
set_option linter.unusedSectionVars false
theorem pS{f:Task->Option Out}{t:Task}{b:Bool}{l:List D}{cs:List V}{fl fl':Fl}{m:Nat}{K:List V->Bool->List D->Tr}(h:f t=some (.d (.l b l),[.cells cs fl]))(hm:cs.length=m)(hf:(fl==fl')=true):
  aC f (.call t fun o=>gE o.snd fun x l2=>fk x fun c g=>aM (c.length==m) (aM (g==fl') (jZ l2 (aW o.fst fun d=>dZ d fun y z=>K c y z))))=aC f (K cs b l):=by
 rw[cE h]
 show aC f (aM (cs.length==m) (aM (fl==fl') (K cs b l)))=_
 rw[hm,beq_self_eq_true,ba,hf,ba]
def ka(x:D):Prop:=∃(nm:List UInt8) (h:Bool) (n:Int),x = .g [.s nm,.b h,.i .i64 n]/\nm.length<=1/\0<=n/\n<=1000
def lU(x:D):Prop:=∃(nm:List UInt8) (ow:Bool) (ret:List UInt8) (ab:Bool) (al:List D) (tb:Bool) (tl:List D),x = .g [.s nm,.b ow,.s ret,.l ab al,.l tb tl]/\nm.length<=3/\ret.length<=442/\al.length<=2/\tl.length<=1/\(∀y∈al,dj y)/\∀y∈tl,dj y
def Cy(x:D):Prop:=∃(kd:Int) (nm ty:List UInt8) (ck cn cu:Int) (cs:List UInt8) (cb:Bool) (cl:List D) (fb:Bool) (fl:List D) (mb:Bool) (ml:List D) (ex:List UInt8) (tb:Bool) (tl:List D),
 x = .g [.i .i64 kd,.s nm,.s ty,.i .i64 ck,.i .i64 cn,.i .u64 cu,.s cs,.l cb cl,.l fb fl,.l mb ml,.s ex,.l tb tl]/\1<=kd/\kd<=7/\nm.length<=1/\ty.length<=15/\
  0<=ck/\ck<=5/\(kd=3->1<=ck)/\-1000<=cn/\cn<=1000/\0<=cu/\cu<18446744073709551616/\cs.length<=1/\cl.length<=2/\(∀y∈cl,vP y)/\
  fl.length<=5/\(∀y∈fl,dj y)/\ml.length<=3/\(∀y∈ml,ka y)/\ex.length<=1/\tl.length<=3/\(∀y∈tl,lU y)/\
  (kd=2->fl=[]/\tl=[]/\ex=[])/\(4<=kd/\kd<=6->ml=[]/\tl=[]/\ex=[])/\(kd=7->fl=[]/\ml=[])
abbrev ec(b:Bool)(ml:List D):Ob := .cells [V.d (D.i .i64 2),V.d (D.s [69]),V.d (D.s []),V.d (D.i .i64 0),V.d (D.i .i64 0),V.d (D.i .u64 0),V.d (D.s []),V.d (D.l true []),V.d (D.l true []),V.d (D.l b ml),V.d (D.s []),V.d (D.l true [])] [(9,3)]
abbrev MA(ty:List UInt8):Ob := .cells [V.d (D.i .i64 1),V.d (D.s [84]),V.d (D.s ty),V.d (D.i .i64 0),V.d (D.i .i64 0),V.d (D.i .u64 0),V.d (D.s []),V.d (D.l true []),V.d (D.l true []),V.d (D.l true []),V.d (D.s []),V.d (D.l true [])] []
abbrev Mp(ck cn:Int)(cs:List UInt8)(cl:List D):Ob := .cells [V.d (D.i .i64 3),V.d (D.s [67]),V.d (D.s [84]),V.d (D.i .i64 ck),V.d (D.i .i64 cn),V.d (D.i .u64 0),V.d (D.s cs),V.d (D.l true cl),V.d (D.l true []),V.d (D.l true []),V.d (D.s []),V.d (D.l true [])] []
def nR(zs:List Int)(t:Task):Prop:=∃(l:List D) (n':Nat),l.length=5/\(∀x∈l,Cy x)/\Pk zs n'/\rk Tryz.prog bn t=some (.d (.l true l),[pk zs n'])
theorem nR.of_eq{zs:List Int}{t t2:Task}(h:nR zs t2)(e:rk Tryz.prog bn t=aC (rk Tryz.prog bn) (Tr.call t2 Tr.ret)):nR zs t:=by
 obtain⟨l,n,h1,h2,h3,h4⟩:=h
 exact⟨l,n,h1,h2,h3,by rw[e];exact bB h4⟩
theorem GR{zs:List Int}{m:Nat}(hp:Pk zs m){ck cn:Int}{cs ty:List UInt8}{cl:List D}{b:Bool}{ml:List D}(h1:1<=ck/\ck<=5)(h2:-1000<=cn/\cn<=1000)(h3:cs.length<=1)(h4:cl.length<=2)(h5:∀y∈cl,vP y)(h6:ty.length<=15)(h7:ml.length<=3)(h8:∀y∈ml,ka y):
  nR zs (Task.at_ 26 1 [true,true,true,true,true,true] (sv 83 [(0,V.p 0 0),(3,V.p 1 0),(7,V.p 2 0),(8,V.p 3 0)]) [] [Mp ck cn cs cl,MA ty,ec b ml,pk zs m]):=by
 obtain⟨b1,l1,m1,p1,p2,p3,p4⟩:=ov hp 4 (most:=4) rfl (by omega) [] (by simp) false
 obtain⟨b2,l2,m2,q1,q2,q3,q4⟩:=ov p3 3 (most:=3) rfl (by omega) [] (by simp) true
 refine⟨_,m2,rfl,?_,q3,by rw[D7,pS (m:=(fS zs m).length) (fl':=[]) p4 rfl rfl,pS (m:=(fS zs m1).length) (fl':=[]) q4 rfl rfl];rfl⟩
 intro x hx
 simp only[List.mem_cons,List.not_mem_nil,or_false]at hx
 rcases hx with rfl|rfl|rfl|rfl|rfl
 ·exact⟨2,_,_,0,0,0,_,_,_,_,_,_,_,_,_,_,rfl,by omega,by omega,by simp,by simp,by omega,by omega,by omega,by omega,by omega,by omega,by omega,by simp,by simp,by simp,by simp,by simp,h7,h8,by simp,by simp,by simp,fun _=>⟨rfl,rfl,rfl⟩,fun h=>by omega,fun h=>by omega⟩
 ·exact⟨1,_,_,0,0,0,_,_,_,_,_,_,_,_,_,_,rfl,by omega,by omega,by simp,h6,by omega,by omega,by omega,by omega,by omega,by omega,by omega,by simp,by simp,by simp,by simp,by simp,by simp,by simp,by simp,by simp,by simp,fun h=>by omega,fun h=>by omega,fun h=>by omega⟩
 ·exact⟨3,_,_,ck,cn,0,_,_,_,_,_,_,_,_,_,_,rfl,by omega,by omega,by simp,by simp,by omega,by omega,fun _=>h1.1,by omega,by omega,by omega,by omega,h3,h4,h5,by simp,by simp,by simp,by simp,by simp,by simp,by simp,fun h=>by omega,fun h=>by omega,fun h=>by omega⟩
 ·exact⟨4,_,_,0,0,0,_,_,_,_,_,_,_,_,_,_,rfl,by omega,by omega,by simp,by simp,by omega,by omega,by omega,by omega,by omega,by omega,by omega,by simp,by simp,by simp,p1,p2,by simp,by simp,by simp,by simp,by simp,fun h=>by omega,fun _=>⟨rfl,rfl,rfl⟩,fun h=>by omega⟩
 ·exact⟨5,_,_,0,0,0,_,_,_,_,_,_,_,_,_,_,rfl,by omega,by omega,by simp,by simp,by omega,by omega,by omega,by omega,by omega,by omega,by omega,by simp,by simp,by simp,q1,q2,by simp,by simp,by simp,by simp,by simp,fun h=>by omega,fun _=>⟨rfl,rfl,rfl⟩,fun h=>by omega⟩
abbrev JU(i N:Int)(o1 o2:Ob):Task:=Task.at_ 26 1 [false,true,false,true,true] (sv 83 [(0,V.p 0 0),(3,V.p 1 0),(4,V.d (D.i .i64 i)),(5,V.d (D.i .i64 N))]) [] [o1,o2]
theorem Dj{l:List D}(h:∀x∈l,ka x):bw 3 l=true:=by
 cases l with
 |nil=>rfl
 |cons x l=>
  obtain⟨_,_,_,rfl,_⟩:=h x (by simp)
  rfl
theorem Ki{zs:List Int}{m:Nat}{nm:List UInt8}{h:Bool}{n:Int}{b:Bool}{ml:List D}{i N:Nat}(hi:i<=5)(hl:ml.length<=5)(hm:∀y∈ml,ka y)
  (hg:nR zs (JU ((i+1:Nat):Int) (N:Int) (ec (b&&false) (ml++[D.g [.s nm,.b h,.i .i64 n]])) (pk zs m))):
  nR zs (Task.at_ 26 1 [true,true,false,false,true,false,false,true,false,true,true] (sv 83 [(0,V.p 0 0),(3,V.p 1 0),(4,V.d (D.i .i64 (i:Int))),(5,V.d (D.i .i64 (N:Int))),(6,V.p 2 0)]) []
   [Ob.cells [V.d (D.s nm),V.d (D.b h),V.d (D.i .i64 n)] [],ec b ml,pk zs m]):=by
 refine hg.of_eq ?_
 have w1:IntKind.i64.wrap ((i:Int)+1)=((i+1:Nat):Int):=by rw[wrap_i64]<;>omega
 rw[Bu,Dj hm,ba,Bool.or_true,ba,aH (by omega),w1]
theorem Md{zs:List Int}{N:Nat}(hN:N<=2):∀(j i:Nat) (b:Bool) (ml:List D) (m:Nat),i+j=N->ml.length=i+1->(∀y∈ml,ka y)->Pk zs m->nR zs (JU (i:Int) (N:Int) (ec b ml) (pk zs m))
 |0,i,b,ml,m,e,hl,hm,hp=>by
  obtain⟨k,m2,hk,h2,hr2⟩:=eJ hp (m:=4) 4 rfl (by omega) (by omega)
  have hx:∃ty:List UInt8,([D.s [105,51,50],D.s [108,105,115,116,60,69,62],D.s [115,116,114,105,110,103],D.s [109,97,112,60,115,116,114,105,110,103,44,105,54,52,62]]:List D)[k]?=some (.s ty)/\ty.length<=15:=by
   rcases k with _|_|_|_|k
   all_goals first
    |(refine⟨_,rfl,?_⟩;simp;done)
    |omega
  obtain⟨ty,hty,hlen⟩:=hx
  obtain⟨k3,m3,hk3,h3,hr3⟩:=eJ h2 (m:=99) 99 rfl (by omega) (by omega)
  by_cases e1:ty=[105,51,50]
  ·refine(GR h3 (ck:=1) (cn:=(k3:Int)) (cs:=[]) (ty:=ty) (cl:=[]) (b:=b) (ml:=ml) (by omega) (by omega) (by simp) (by simp) (by simp) hlen (by omega) hm).of_eq ?_
   rw[j7,bc (by omega),cr (m:=(fS zs m).length) (fl':=[]) hr2 rfl rfl,xi hty,da (beq_iff_eq.2 e1),cr (m:=(fS zs m2).length) (fl':=[]) hr3 rfl rfl]
  ·by_cases e2:ty=[108,105,115,116,60,69,62]
   ·refine(GR h2 (ck:=5) (cn:=0) (cs:=[]) (ty:=ty) (cl:=[D.g [D.i .i64 4,D.i .i64 0,D.i .u64 0,D.s [69,46,65],D.l true []],D.g [D.i .i64 1,D.i .i64 0,D.i .u64 0,D.s [],D.l true []]]) (b:=b) (ml:=ml) (by omega) (by omega) (by simp) (by simp) (fun y hy=>?_) hlen (by omega) hm).of_eq ?_
    ·simp only[List.mem_cons,List.not_mem_nil,or_false]at hy
     rcases hy with rfl|rfl
     ·exact iq (by omega) (by omega) (by omega) (by simp)
     ·exact iq (by omega) (by omega) (by omega) (by simp)
    ·rw[j7,bc (by omega),cr (m:=(fS zs m).length) (fl':=[]) hr2 rfl rfl,xi hty,cj (beq_eq_false_iff_ne.2 e1),da (beq_iff_eq.2 e2)]
   ·by_cases e3:ty=[115,116,114,105,110,103]
    ·refine(GR h2 (ck:=3) (cn:=0) (cs:=[99]) (ty:=ty) (cl:=[]) (b:=b) (ml:=ml) (by omega) (by omega) (by simp) (by simp) (by simp) hlen (by omega) hm).of_eq ?_
     rw[j7,bc (by omega),cr (m:=(fS zs m).length) (fl':=[]) hr2 rfl rfl,xi hty,cj (beq_eq_false_iff_ne.2 e1),cj (beq_eq_false_iff_ne.2 e2),da (beq_iff_eq.2 e3)]
    ·refine(GR h2 (ck:=5) (cn:=0) (cs:=[]) (ty:=ty) (cl:=[]) (b:=b) (ml:=ml) (by omega) (by omega) (by simp) (by simp) (by simp) hlen (by omega) hm).of_eq ?_
     rw[j7,bc (by omega),cr (m:=(fS zs m).length) (fl':=[]) hr2 rfl rfl,xi hty,cj (beq_eq_false_iff_ne.2 e1),cj (beq_eq_false_iff_ne.2 e2),cj (beq_eq_false_iff_ne.2 e3)]
 |j+1,i,b,ml,m,e,hl,hm,hp=>by
  obtain⟨k,m2,hk,h2,hr2⟩:=eJ hp (m:=2) 2 rfl (by omega) (by omega)
  obtain⟨k3,m3,hk3,h3,hr3⟩:=eJ h2 (m:=9) 9 rfl (by omega) (by omega)
  have w1:IntKind.i64.wrap (10*(i:Int))=10*(i:Int):=by rw[wrap_i64]<;>omega
  have w2:IntKind.i64.wrap (5+10*(i:Int))=5+10*(i:Int):=by rw[wrap_i64]<;>omega
  have w3:IntKind.i64.wrap (5+10*(i:Int)+(k3:Int))=5+10*(i:Int)+(k3:Int):=by rw[wrap_i64]<;>omega
  have nx:∀(nm:List UInt8) (h:Bool) (n:Int) (m':Nat),nm.length<=1->0<=n->n<=1000->Pk zs m'->nR zs (JU ((i+1:Nat):Int) (N:Int) (ec (b&&false) (ml++[D.g [.s nm,.b h,.i .i64 n]])) (pk zs m')):=fun nm h n m' a1 a2 a3 hm'=>
   Md hN j (i+1) (b&&false) _ m' (by omega) (by simp[hl]) (fun y hy=>by
    rcases List.mem_append.1 hy with hy|hy
    ·exact hm y hy
    ·simp only[List.mem_singleton]at hy;subst hy;exact⟨_,_,_,rfl,a1,a2,a3⟩) hm'
  by_cases hk0:k=0
  ·refine(Ki (b:=b) (ml:=ml) (by omega) (by omega) hm (nx [UInt8.ofNat (IntKind.u8.wrap (IntKind.i64.wrap (66+(i:Int)))).toNat] true (5+10*(i:Int)+(k3:Int)) m3 (by simp) (by omega) (by omega) h3)).of_eq ?_
   rw[j7,bf (by omega),cr (m:=(fS zs m).length) (fl':=[]) hr2 rfl rfl,cm (by omega),cr (m:=(fS zs m2).length) (fl':=[]) hr3 rfl rfl,w1,w2,w3]
  ·refine(Ki (b:=b) (ml:=ml) (by omega) (by omega) hm (nx [UInt8.ofNat (IntKind.u8.wrap (IntKind.i64.wrap (66+(i:Int)))).toNat] false 0 m2 (by simp) (by omega) (by omega) h2)).of_eq ?_
   rw[j7,bf (by omega),cr (m:=(fS zs m).length) (fl':=[]) hr2 rfl rfl,bO (by omega)]
theorem Ek{zs:List Int}{n:Nat}(h:Pk zs n):nR zs (Task.call 26 [V.p 0 0] [pk zs n]):=by
 obtain⟨k,n1,hk,h1,hr⟩:=eJ h (m:=3) 3 rfl (by omega) (by omega)
 refine(Md (N:=k) (by omega) k 0 true [D.g [D.s [65],D.b false,D.i .i64 0]] n1 (by omega) rfl (fun y hy=>?_) h1).of_eq ?_
 ·simp only[List.mem_singleton]at hy;subst hy;exact⟨_,_,_,rfl,by simp,by omega,by omega⟩
 ·rw[ME,cr (m:=2) (fl':=[]) hr rfl rfl];rfl
end Go.Dn.Dec
namespace Go.Dn.Dec
open Go.Proofs
set_option linter.unusedVariables false
set_option linter.unusedSimpArgs false
set_option linter.unusedSectionVars false
abbrev vc(b:Bool)(l:List D):Ob := .cells [V.d (D.i .i64 7),V.d (D.s [86]),V.d (D.s []),V.d (D.i .i64 0),V.d (D.i .i64 0),V.d (D.i .u64 0),V.d (D.s []),V.d (D.l true []),V.d (D.l true []),V.d (D.l true []),V.d (D.s []),V.d (D.l b l)] [(11,5)]
abbrev xc(b:Bool)(l:List D):Ob := .cells [V.d (D.i .i64 6),V.d (D.s [88]),V.d (D.s []),V.d (D.i .i64 0),V.d (D.i .i64 0),V.d (D.i .u64 0),V.d (D.s []),V.d (D.l true []),V.d (D.l b l),V.d (D.l true []),V.d (D.s []),V.d (D.l true [])] []
abbrev qc(b:Bool)(l:List D):Ob := .cells [V.d (D.i .i64 4),V.d (D.s [81]),V.d (D.s []),V.d (D.i .i64 0),V.d (D.i .i64 0),V.d (D.i .u64 0),V.d (D.s []),V.d (D.l true []),V.d (D.l b l),V.d (D.l true []),V.d (D.s []),V.d (D.l true [])] []
abbrev mc(nm:List UInt8)(ow:Bool)(ret:List UInt8)(ab:Bool)(al:List D)(tl:List D):Ob := .cells [V.d (D.s nm),V.d (D.b ow),V.d (D.s ret),V.d (D.l ab al),V.d (D.l true tl)] []
def qa(zs:List Int)(t:Task):Prop:=∃(l:List D) (n':Nat),l.length=4/\(∀x∈l,Cy x)/\Pk zs n'/\rk Tryz.prog bn t=some (.d (.l true l),[pk zs n'])
theorem qa.of_eq{zs:List Int}{t t2:Task}(h:qa zs t2)(e:rk Tryz.prog bn t=aC (rk Tryz.prog bn) (Tr.call t2 Tr.ret)):qa zs t:=by
 obtain⟨l,n,h1,h2,h3,h4⟩:=h
 exact⟨l,n,h1,h2,h3,by rw[e];exact bB h4⟩
abbrev KT(s:List UInt8)(i N:Int)(v x q o:Ob):Task:=Task.at_ 25 1 [false,true,false,true,true,true,true] (sv 72 [(0,V.p 0 0),(1,V.d (D.s s)),(5,V.p 1 0),(6,V.p 2 0),(7,V.p 3 0),(8,V.d (D.i .i64 i)),(9,V.d (D.i .i64 N))]) [] [v,x,q,o]
abbrev KR(s:List UInt8)(i N:Int)(m v x q o:Ob):Task:=Task.at_ 25 1 [true,true,false,false,true,false,false,true,false,true,true,true,true] (sv 72 [(0,V.p 0 0),(1,V.d (D.s s)),(5,V.p 1 0),(6,V.p 2 0),(7,V.p 3 0),(8,V.d (D.i .i64 i)),(9,V.d (D.i .i64 N)),(10,V.p 4 0)]) [] [m,v,x,q,o]
theorem AM{l:List D}(h:∀x∈l,lU x):bw 5 l=true:=by
 cases l with
 |nil=>rfl
 |cons x l=>
  obtain⟨_,_,_,_,_,_,_,rfl,_⟩:=h x (by simp)
  rfl
def K5:D:=D.g [D.b true,D.i .i64 1,D.i .i64 0,D.s [88],D.s [120],D.b false,D.i .i64 0,D.i .i64 0,D.i .u64 0,D.s [],D.l true []]
theorem Kq:dj K5:=⟨true,1,0,[88],[120],false,0,0,0,[],rfl,by omega,by omega,by omega,by omega,by simp,by simp,by simp,by omega,by omega,by omega,by omega,by omega,by omega,by simp⟩
theorem My{zs:List Int}{s:List UInt8}{b bx bq:Bool}{l lx lq:List D}{i N m:Nat}(hi:i<=5)(hl:l.length<=5)(hm:∀y∈l,lU y){nm ret:List UInt8}{ow ab:Bool}{al tl:List D}
  (hg:qa zs (KT s ((i+1:Nat):Int) (N:Int) (vc (b&&false) (l++[D.g [.s nm,.b ow,.s ret,.l ab al,.l true tl]])) (xc bx lx) (qc bq lq) (pk zs m))):
  qa zs (KR s (i:Int) (N:Int) (mc nm ow ret ab al tl) (vc b l) (xc bx lx) (qc bq lq) (pk zs m)):=by
 refine hg.of_eq ?_
 have w1:IntKind.i64.wrap ((i:Int)+1)=((i+1:Nat):Int):=by rw[wrap_i64]<;>omega
 rw[zU,AM hm,ba,Bool.or_true,ba,aH (by omega),w1]
theorem KH{zs:List Int}{s:List UInt8}(hs:s.length<=100){bx bq:Bool}{lx lq:List D}(hx:lx.length<=5/\∀y∈lx,dj y)(hq:lq.length<=5/\∀y∈lq,dj y){N:Nat}(hN:N<=3):
  ∀(j i:Nat) (b:Bool) (l:List D) (m:Nat),i+j=N->l.length=i->(∀y∈l,lU y)->Pk zs m->qa zs (KT s (i:Int) (N:Int) (vc b l) (xc bx lx) (qc bq lq) (pk zs m))
 |0,i,b,l,m,e,hl,hm,hp=>by
  refine⟨_,m,rfl,?_,hp,by rw[j6,bc (by omega)];rfl⟩
  intro x hx'
  simp only[List.mem_cons,List.not_mem_nil,or_false]at hx'
  rcases hx' with rfl|rfl|rfl|rfl
  ·exact⟨4,_,_,0,0,0,_,_,_,_,_,_,_,_,_,_,rfl,by omega,by omega,by simp,by simp,by omega,by omega,by omega,by omega,by omega,by omega,by omega,by simp,by simp,by simp,hq.1,hq.2,by simp,by simp,by simp,by simp,by simp,fun h=>by omega,fun _=>⟨rfl,rfl,rfl⟩,fun h=>by omega⟩
  ·exact⟨6,_,_,0,0,0,_,_,_,_,_,_,_,_,_,_,rfl,by omega,by omega,by simp,by simp,by omega,by omega,by omega,by omega,by omega,by omega,by omega,by simp,by simp,by simp,hx.1,hx.2,by simp,by simp,by simp,by simp,by simp,fun h=>by omega,fun _=>⟨rfl,rfl,rfl⟩,fun h=>by omega⟩
  ·exact⟨7,_,_,0,0,0,_,_,_,_,_,_,_,_,_,_,rfl,by omega,by omega,by simp,by simp,by omega,by omega,by omega,by omega,by omega,by omega,by omega,by simp,by simp,by simp,by simp,by simp,by simp,by simp,by simp,by omega,hm,fun h=>by omega,fun h=>by omega,fun _=>⟨rfl,rfl⟩⟩
  ·exact⟨7,_,_,0,0,0,_,_,_,_,_,_,_,_,_,_,rfl,by omega,by omega,by simp,by simp,by omega,by omega,by omega,by omega,by omega,by omega,by omega,by simp,by simp,by simp,by simp,by simp,by simp,by simp,by simp,by simp,fun y hy=>by
    simp only[List.mem_singleton]at hy;subst hy
    exact⟨_,_,_,_,_,_,_,rfl,by simp,by simp,by simp,by simp,by simp,by simp⟩,fun h=>by omega,fun h=>by omega,fun _=>⟨rfl,rfl⟩⟩
 |j+1,i,b,l,m,e,hl,hm,hp=>by
  obtain⟨ab,al,m1,a1,a2,h1,hr1⟩:=IK hp s hs
  obtain⟨k,m2,hk,h2,hr2⟩:=eJ h1 (m:=4) 4 rfl (by omega) (by omega)
  obtain⟨t,m3,ht,h3,hr3⟩:=Gs h2 s hs
  obtain⟨k4,m4,hk4,h4,hr4⟩:=eJ h3 (m:=2) 2 rfl (by omega) (by omega)
  have nx:∀(nm:List UInt8) (ow:Bool) (ret:List UInt8) (tl:List D) (m':Nat),nm.length<=3->ret.length<=442->tl.length<=1->(∀y∈tl,dj y)->Pk zs m'->
    qa zs (KR s (i:Int) (N:Int) (mc nm ow ret ab al tl) (vc b l) (xc bx lx) (qc bq lq) (pk zs m')):=fun nm ow ret tl m' q1 q2 q3 q4 hm'=>
   My (by omega) (by omega) hm (KH hs hx hq hN j (i+1) (b&&false) _ m' (by omega) (by simp[hl]) (fun y hy=>by
    rcases List.mem_append.1 hy with hy|hy
    ·exact hm y hy
    ·simp only[List.mem_singleton]at hy;subst hy;exact⟨_,_,_,_,_,_,_,rfl,q1,q2,a1,q3,a2,q4⟩) hm')
  have hex:∀y∈[K5],dj y:=fun y hy=>by simp only[List.mem_singleton]at hy;subst hy;exact Kq
  by_cases e0:k=0
  ·refine(nx ([109]++[UInt8.ofNat (IntKind.u8.wrap (IntKind.i64.wrap (48+(i:Int)))).toNat]) true [118,111,105,100] [] m2 (by simp) (by simp) (by simp) (by simp) h2).of_eq ?_
   rw[j6,bf (by omega),pS (m:=(fS zs m).length) (fl':=[]) hr1 rfl rfl,cr (m:=(fS zs m1).length) (fl':=[]) hr2 rfl rfl,cm (by omega)]
  ·by_cases e1:k=1
   ·refine(nx ([109]++[UInt8.ofNat (IntKind.u8.wrap (IntKind.i64.wrap (48+(i:Int)))).toNat]) false [118,111,105,100] [K5] m2 (by simp) (by simp) (by simp) hex h2).of_eq ?_
    rw[j6,bf (by omega),pS (m:=(fS zs m).length) (fl':=[]) hr1 rfl rfl,cr (m:=(fS zs m1).length) (fl':=[]) hr2 rfl rfl,bO (by omega),cm (by omega)]
    rfl
   ·by_cases e4:k4=0
    ·refine(nx ([109]++[UInt8.ofNat (IntKind.u8.wrap (IntKind.i64.wrap (48+(i:Int)))).toNat]) false t [K5] m4 (by simp) ht (by simp) hex h4).of_eq ?_
     rw[j6,bf (by omega),pS (m:=(fS zs m).length) (fl':=[]) hr1 rfl rfl,cr (m:=(fS zs m1).length) (fl':=[]) hr2 rfl rfl,bO (by omega),bO (by omega),wW (m:=(fS zs m2).length) (fl':=[]) hr3 rfl rfl,cr (m:=(fS zs m3).length) (fl':=[]) hr4 rfl rfl,cm (by omega)]
     rfl
    ·refine(nx ([109]++[UInt8.ofNat (IntKind.u8.wrap (IntKind.i64.wrap (48+(i:Int)))).toNat]) false t [] m4 (by simp) ht (by simp) (by simp) h4).of_eq ?_
     rw[j6,bf (by omega),pS (m:=(fS zs m).length) (fl':=[]) hr1 rfl rfl,cr (m:=(fS zs m1).length) (fl':=[]) hr2 rfl rfl,bO (by omega),bO (by omega),wW (m:=(fS zs m2).length) (fl':=[]) hr3 rfl rfl,cr (m:=(fS zs m3).length) (fl':=[]) hr4 rfl rfl,bO (by omega)]
theorem FQ{zs:List Int}{n:Nat}(h:Pk zs n)(s:List UInt8)(hs:s.length<=100):qa zs (Task.call 25 [V.p 0 0,V.d (D.s s)] [pk zs n]):=by
 obtain⟨b1,l1,m1,p1,p2,h1,hr1⟩:=ov h 5 (most:=5) rfl (by omega) s hs false
 obtain⟨b2,l2,m2,q1,q2,h2,hr2⟩:=ov h1 2 (most:=2) rfl (by omega) s hs false
 obtain⟨k,m3,hk,h3,hr3⟩:=eJ h2 (m:=4) 4 rfl (by omega) (by omega)
 refine(KH hs (bx:=b2) (bq:=b1) ⟨q1,q2⟩ ⟨p1,p2⟩ (N:=k) (by omega) k 0 true [] m3 (by omega) rfl (by simp) h3).of_eq ?_
 rw[MD,pS (m:=2) (fl':=[]) hr1 rfl rfl,pS (m:=(fS zs m1).length) (fl':=[]) hr2 rfl rfl,cr (m:=(fS zs m2).length) (fl':=[]) hr3 rfl rfl]
 rfl
def Bw(x:D):Prop:=∃(il sl:List D) (b:Bool) (l:List D),x = .g [.l true il,.l true sl,.l b l]/\(il=[]/\sl=[]\/il=[.s [98,97,115,101]]/\sl=[.g [.s [103,111],.s [97,46,98]]])/\1<=l.length/\l.length<=9/\∀y∈l,Cy y
theorem uN{l:List D}(h:∀x∈l,Cy x):bw 12 l=true:=by
 cases l with
 |nil=>rfl
 |cons x l=>
  obtain⟨_,_,_,_,_,_,_,_,_,_,_,_,_,_,_,_,rfl,_⟩:=h x (by simp)
  rfl
theorem Hl{zs:List Int}{n:Nat}(h:Pk zs n):∃(x:D) (r:List D) (n':Nat),Bw x/\(∀y∈r,Bw y)/\r.length<=1/\Pk zs n'/\rk Tryz.prog bn (Task.call 11 [V.p 0 0] [pk zs n])=some (.d (.l true (x::r)),[pk zs n']):=by
 obtain⟨k,m,hk,h1,hr⟩:=eJ h (m:=3) 3 rfl (by omega) (by omega)
 by_cases e0:k=0
 ·obtain⟨l1,m1,p1,p2,h2,hr2⟩:=FQ h1 [98,97,115,101,46] (by simp)
  obtain⟨l2,m2,q1,q2,h3,hr3⟩:=Ek h2
  refine⟨_,_,m2,⟨_,_,true,l1,rfl,.inr ⟨rfl,rfl⟩,by omega,by omega,p2⟩,fun y hy=>?_,?_,h3,by rw[Mk,cr (m:=2) (fl':=[]) hr rfl rfl,cm (by omega),pS (m:=(fS zs m).length) (fl':=[]) hr2 rfl rfl,pS (m:=(fS zs m1).length) (fl':=[]) hr3 rfl rfl];rfl⟩
  ·simp only[List.mem_singleton]at hy;subst hy
   exact⟨_,_,true,l2,rfl,.inl ⟨rfl,rfl⟩,by omega,by omega,q2⟩
  ·simp
 ·obtain⟨l1,m1,p1,p2,h2,hr2⟩:=Ek h1
  obtain⟨l2,m2,q1,q2,h3,hr3⟩:=FQ h2 [] (by simp)
  refine⟨D.g [D.l true [],D.l true [],D.l (true&&l2.isEmpty) (l1++l2)],[],m2,⟨_,_,_,l1++l2,rfl,.inl ⟨rfl,rfl⟩,by simp;omega,by simp;omega,fun y hy=>?_⟩,by simp,by simp,h3,?_⟩
  ·rcases List.mem_append.1 hy with hy|hy
   ·exact p2 y hy
   ·exact q2 y hy
  ·rw[Mk,cr (m:=2) (fl':=[]) hr rfl rfl,bO (by omega),pS (m:=(fS zs m).length) (fl':=[]) hr2 rfl rfl,pS (m:=(fS zs m1).length) (fl':=[]) hr3 rfl rfl,ba,uN p2,ba,uN q2,ba,Bool.true_or,ba,aH (by omega)]
   rfl
end Go.Dn.Dec
namespace Go.Dn.Dec
set_option exponentiation.threshold 5000000
def U:Nat:=2^1074
def E:Nat:=18014398509481983
theorem GJ:E+1=2*2^53:=by decide
theorem Io:0<U:=Nat.pow_pos (by decide)
theorem Mb(a b c d:Nat):a*(b*c)*d=a*(d*b)*c:=by ac_rfl
theorem Mo(a b c:Nat):a*b*c*2=a*(b*2*c):=by ac_rfl
theorem FJ{k:Nat}(h:0<k):2^k=2^(k-1)*2:=by rw[<-Nat.pow_succ,Nat.succ_eq_add_one,Nat.sub_add_cancel h]
theorem Lj(a b c:Nat):a*b*c=a*c*b:=by ac_rfl
theorem Mc(x a b:Nat):2*x*(a*b)=2*(x*a)*b:=by ac_rfl
theorem Bz{k:Nat}(h:k<=1074):U=2^(1074-k)*2^k:=by rw[<-Nat.pow_add,Nat.sub_add_cancel h];rfl
theorem Ed{k:Nat}(h:1074<=k):2^k=2^(k-1074)*U:=by unfold U;rw[<-Nat.pow_add,Nat.sub_add_cancel h]
def gr(v:Nat):Nat:=if v<2^52 then v else(v%2^52+2^52)*2^(v / 2^52-1)
theorem EX(k q:Nat)(hq:q<=2^53)(h:k=0\/2^52<=q):gr (k*2^52+q)=q*2^k:=by
 unfold gr
 by_cases h0:q<2^52
 ·have hk:k=0:=by omega
  subst hk
  rw[if_pos (by omega)];omega
 ·rw[if_neg (by omega)]
  by_cases h1:q<2^53
  ·have e1:(k*2^52+q)%2^52+2^52=q:=by omega
   have e2:(k*2^52+q) / 2^52-1=k:=by omega
   rw[e1,e2]
  ·have e1:(k*2^52+q)%2^52+2^52=2^52:=by omega
   have e2:(k*2^52+q) / 2^52-1=k+1:=by omega
   have e3:q=2^52*2:=by omega
   rw[e1,e2,e3,Nat.pow_succ 2 k,Nat.mul_comm (2^k) 2,Nat.mul_assoc]
theorem EY(v:Nat):∃k q,q<2^53/\(k=0\/2^52<=q)/\v=k*2^52+q:=by
 by_cases h:v<2^52
 ·exact⟨0,v,by omega,Or.inl rfl,by omega⟩
 ·exact⟨v / 2^52-1,v%2^52+2^52,by omega,Or.inr (by omega),by omega⟩
theorem BO(k q:Nat)(hq:q<2^53)(h:k=0\/2^52<=q):gr (k*2^52+q+1)=(q+1)*2^k:=by
 rw[Nat.add_assoc];exact EX k (q+1) (by omega) (by omega)
theorem Iq(v:Nat):gr v<gr (v+1):=by
 obtain⟨k,q,h1,h2,rfl⟩:=EY v
 rw[EX k q (by omega) h2,BO k q h1 h2]
 exact Nat.mul_lt_mul_of_pos_right (by omega) (Nat.pow_pos (by decide))
theorem wj{v w:Nat}(h:v<=w):gr v<=gr w:=by
 induction h with
 |refl=>exact Nat.le_refl _
 |step _ ih=>exact Nat.le_trans ih (Nat.le_of_lt (Iq _))
theorem yf{v w:Nat}(h:v<w):gr v<gr w:=Nat.lt_of_lt_of_le (Iq v) (wj h)
def iX(v:Nat):Nat:=gr v+gr (v+1)
theorem Fi{v w:Nat}(h:v<=w):iX v<=iX w:=by
 unfold iX
 have:=wj h
 have:=wj (show v+1<=w+1 by omega)
 omega
theorem Dh{v w:Nat}(h:v<w):iX v<iX w:=by
 unfold iX
 have:=yf h
 have:=yf (show v+1<w+1 by omega)
 omega
def vQ(x y v:Nat):Prop:=
 (2*x*U<iX v*y\/(2*x*U=iX v*y/\v%2=0))/\(v=0\/iX (v-1)*y<2*x*U\/(iX (v-1)*y=2*x*U/\v%2=0))
theorem uS{x y v x' y' v':Nat}(h:vQ x y v)(h':vQ x' y' v')(hy:0<y)(hy':0<y')(hle:x*y'<=x'*y):v<=v':=by
 rcases Nat.lt_or_ge v' v with hlt|hge
 ·exfalso
  have hm:iX v'<=iX (v-1):=Fi (by omega)
  obtain⟨-,hl⟩:=h
  obtain⟨hu,-⟩:=h'
  have e1:2*x*U*y'<=2*x'*U*y:=by
   have:=Nat.mul_le_mul_left (2*U) hle
   have a1:2*x*U*y'=2*U*(x*y'):=by ac_rfl
   have a2:2*x'*U*y=2*U*(x'*y):=by ac_rfl
   omega
  have e2:iX v'*y'*y<=iX (v-1)*y*y':=by
   have:=Nat.mul_le_mul_right (y'*y) hm
   have a1:iX v'*y'*y=iX v'*(y'*y):=by ac_rfl
   have a2:iX (v-1)*y*y'=iX (v-1)*(y'*y):=by ac_rfl
   omega
  have l0:iX (v-1)*y<=2*x*U:=by omega
  have u0:2*x'*U<=iX v'*y':=by omega
  have l1:=Nat.mul_le_mul_right y' l0
  have u1:=Nat.mul_le_mul_right y u0
  have k1:iX (v-1)*y=2*x*U:=Nat.eq_of_mul_eq_mul_right hy' (by omega)
  have k2:2*x'*U=iX v'*y':=Nat.eq_of_mul_eq_mul_right hy (by omega)
  have k3:iX v'=iX (v-1):=by
   have a1:iX v'*y'*y=iX v'*(y'*y):=by ac_rfl
   have a2:iX (v-1)*y*y'=iX (v-1)*(y'*y):=by ac_rfl
   exact Nat.eq_of_mul_eq_mul_right (Nat.mul_pos hy' hy) (by omega)
  have k4:v'=v-1:=by
   rcases Nat.lt_or_ge v' (v-1)with h3|h3
   ·have:=Dh h3;omega
   ·omega
  omega
 ·exact hge
theorem HB{x y v x' y' v':Nat}(h:vQ x y v)(h':vQ x' y' v')(hy:0<y)(hy':0<y')(he:x*y'=x'*y):v=v':=
 Nat.le_antisymm (uS h h' hy hy' (Nat.le_of_eq he)) (uS h' h hy' hy (Nat.le_of_eq he.symm))
theorem ta{x y v:Nat}(h1:2*x*U<iX v*y)(h2:v=0\/iX (v-1)*y<2*x*U):vQ x y v:=⟨Or.inl h1,h2.elim Or.inl fun h=>Or.inr (Or.inl h)⟩
theorem rS{x y v:Nat}(hy:0<y)(h:x*U=gr v*y):vQ x y v:=by
 have e:2*x*U=2*gr v*y:=by rw[Nat.mul_assoc,h,Nat.mul_assoc]
 refine ta ?_ ?_
 ·rw[e]
  refine Nat.mul_lt_mul_of_pos_right ?_ hy
  have:=Iq v
  unfold iX;omega
 ·rcases Nat.eq_zero_or_pos v with h0|h0
  ·exact Or.inl h0
  ·right
   rw[e]
   refine Nat.mul_lt_mul_of_pos_right ?_ hy
   have:=Iq (v-1)
   unfold iX
   rw[Nat.sub_add_cancel h0]at this⊢
   omega
theorem oD(x y:Nat)(hy:0<y):2*x<(2*cI x y+1)*y\/(2*x=(2*cI x y+1)*y/\cI x y%2=0):=by
 have hd:=Nat.div_add_mod x y
 have hr:x%y<y:=Nat.mod_lt _ hy
 unfold cI
 generalize x / y=q at *
 generalize x%y=r at *
 have e1:(2*(q+1)+1)*y=2*(y*q)+3*y:=by rw[Nat.add_mul,Nat.mul_assoc,Nat.add_mul,Nat.mul_comm q y];omega
 have e2:(2*q+1)*y=2*(y*q)+y:=by rw[Nat.add_mul,Nat.mul_assoc,Nat.mul_comm q y];omega
 split
 ·rw[e1];omega
 ·rw[e2];omega
theorem ma(x y:Nat)(hy:0<y):2*cI x y*y<2*x+y\/(2*cI x y*y=2*x+y/\cI x y%2=0):=by
 have hd:=Nat.div_add_mod x y
 have hr:x%y<y:=Nat.mod_lt _ hy
 unfold cI
 generalize x / y=q at *
 generalize x%y=r at *
 have e1:2*(q+1)*y=2*(y*q)+2*y:=by rw[Nat.mul_assoc,Nat.add_mul,Nat.mul_comm q y];omega
 have e2:2*q*y=2*(y*q):=by rw[Nat.mul_assoc,Nat.mul_comm q y]
 split
 ·rw[e1];omega
 ·rw[e2];omega
theorem uR(x y k:Nat)(hy:0<y):2*x*U<(2*bC x y ((k:Int)-1074)+1)*2^k*y\/(2*x*U=(2*bC x y ((k:Int)-1074)+1)*2^k*y/\bC x y ((k:Int)-1074)%2=0):=by
 unfold bC
 by_cases h:(k:Int)-1074<0
 ·rw[if_pos h,show (-((k:Int)-1074)).toNat=1074-k by omega]
  have h1:=oD (x*2^(1074-k)) y hy
  have e:=Bz (k:=k) (by omega)
  generalize cI (x*2^(1074-k)) y=q at *
  have e1:2*x*U=2*(x*2^(1074-k))*2^k:=by rw[e];exact Mc _ _ _
  have e2:(2*q+1)*2^k*y=(2*q+1)*y*2^k:=Lj _ _ _
  rw[e1,e2]
  exact h1.imp (fun h=>Nat.mul_lt_mul_of_pos_right h (Nat.pow_pos (by decide))) (fun h=>⟨by rw[h.1],h.2⟩)
 ·rw[if_neg h,show ((k:Int)-1074).toNat=k-1074 by omega]
  have h1:=oD x (y*2^(k-1074)) (Nat.mul_pos hy (Nat.pow_pos (by decide)))
  have e:=Ed (k:=k) (by omega)
  generalize cI x (y*2^(k-1074))=q at *
  have e2:(2*q+1)*2^k*y=(2*q+1)*(y*2^(k-1074))*U:=by rw[e];exact Mb _ _ _ _
  rw[e2]
  exact h1.imp (fun h=>Nat.mul_lt_mul_of_pos_right h Io) (fun h=>⟨by rw[h.1],h.2⟩)
theorem nB(x y k:Nat)(hy:0<y):2*bC x y ((k:Int)-1074)*2^k*y<2*x*U+2^k*y\/(2*bC x y ((k:Int)-1074)*2^k*y=2*x*U+2^k*y/\bC x y ((k:Int)-1074)%2=0):=by
 unfold bC
 by_cases h:(k:Int)-1074<0
 ·rw[if_pos h,show (-((k:Int)-1074)).toNat=1074-k by omega]
  have h1:=ma (x*2^(1074-k)) y hy
  have e:=Bz (k:=k) (by omega)
  generalize cI (x*2^(1074-k)) y=q at *
  have e1:2*x*U+2^k*y=(2*(x*2^(1074-k))+y)*2^k:=by rw[e,Nat.add_mul,Mc,Nat.mul_comm y]
  have e2:2*q*2^k*y=2*q*y*2^k:=Lj _ _ _
  rw[e1,e2]
  exact h1.imp (fun h=>Nat.mul_lt_mul_of_pos_right h (Nat.pow_pos (by decide))) (fun h=>⟨by rw[h.1],h.2⟩)
 ·rw[if_neg h,show ((k:Int)-1074).toNat=k-1074 by omega]
  have h1:=ma x (y*2^(k-1074)) (Nat.mul_pos hy (Nat.pow_pos (by decide)))
  have e:=Ed (k:=k) (by omega)
  generalize cI x (y*2^(k-1074))=q at *
  have e1:2*x*U+2^k*y=(2*x+y*2^(k-1074))*U:=by rw[e,Nat.add_mul,Lj _ U y,Nat.mul_comm y]
  have e2:2*q*2^k*y=2*q*(y*2^(k-1074))*U:=by rw[e];exact Mb _ _ _ _
  rw[e1,e2]
  exact h1.imp (fun h=>Nat.mul_lt_mul_of_pos_right h Io) (fun h=>⟨by rw[h.1],h.2⟩)
theorem sD(k q:Nat)(hq:q<2^53)(h:k=0\/2^52<=q):iX (k*2^52+q)=(2*q+1)*2^k:=by
 rw[iX,EX k q (by omega) h,BO k q hq h,<-Nat.add_mul,show q+(q+1)=2*q+1 by omega]
theorem Di(k q:Nat)(hq:q<2^53)(h0:0<q)(h:k=0\/2^52<q):iX (k*2^52+q-1)=(2*q-1)*2^k:=by
 have e:k*2^52+q-1=k*2^52+(q-1):=by omega
 rw[e,sD k (q-1) (by omega) (by omega),show 2*(q-1)+1=2*q-1 by omega]
theorem Fh(k:Nat)(hk:0<k):iX (k*2^52+2^52-1)=E*2^(k-1):=by
 have hE:=GJ
 obtain⟨q,hq⟩:∃q,q+1=2^53:=⟨2^53-1,by omega⟩
 have e:k*2^52+2^52-1=(k-1)*2^52+q:=by omega
 rw[e,sD (k-1) q (by omega) (by omega),show 2*q+1=E by omega]
theorem yB(q X A y k:Nat)(hp:0<A*y)(hu:X<(2*q+1)*A*y\/(X=(2*q+1)*A*y/\q%2=0))(B:Nat)(hB:0<k->A=B*2)
  (hlow:k=0\/E*B*y<=X):k=0\/4503599627370496<=q:=by
 have hE:=GJ
 rcases hlow with h|h
 ·exact Or.inl h
 ·rcases Nat.eq_zero_or_pos k with h0|h0
  ·exact Or.inl h0
  ·right
   have e:E*B*y*2=E*(A*y):=by rw[hB h0];exact Mo _ _ _
   have h1:X<=(2*q+1)*(A*y):=by rw[<-Nat.mul_assoc];omega
   have h2:E*(A*y)<=(2*(2*q+1))*(A*y):=by rw[Nat.mul_assoc 2 (2*q+1)];omega
   have h3:=Nat.le_of_mul_le_mul_right h2 hp
   omega
theorem qv(q X A y:Nat)(hq:0<q)(hl:2*q*A*y<X+A*y\/(2*q*A*y=X+A*y/\q%2=0)):(2*q-1)*A*y<X\/((2*q-1)*A*y=X/\q%2=0):=by
 have e2:(2*q-1)*A*y+A*y=2*q*A*y:=by
  rw[Nat.mul_assoc,Nat.mul_assoc (2*q),<-Nat.succ_mul,show (2*q-1).succ=2*q by omega]
 rcases hl with h|h
 ·left;omega
 ·right;exact⟨by omega,h.2⟩
theorem sH(x y k:Nat)(hy:0<y)(hq:bC x y ((k:Int)-1074)<2^53)(hlow:k=0\/E*2^(k-1)*y<=2*x*U):
  vQ x y (k*2^52+bC x y ((k:Int)-1074))/\(k=0\/2^52<=bC x y ((k:Int)-1074)):=by
 have hu:=uR x y k hy
 have hl:=nB x y k hy
 generalize bC x y ((k:Int)-1074)=q at *
 have hp:0<2^k*y:=Nat.mul_pos (Nat.pow_pos (by decide)) hy
 have h52:k=0\/2^52<=q:=yB q _ _ y k hp hu (2^(k-1)) FJ hlow
 refine⟨⟨?_,?_⟩,h52⟩
 ·rw[sD k q hq h52]
  refine hu.imp id fun h=>⟨h.1,?_⟩
  omega
 ·by_cases h0:k*2^52+q=0
  ·exact Or.inl h0
  ·right
   by_cases hb:k=0\/2^52<q
   ·rw[Di k q hq (by omega) hb]
    exact(qv q _ _ y (by omega) hl).imp id fun h=>⟨h.1,by omega⟩
   ·have hk:0<k:=by omega
    have hq2:q=2^52:=by omega
    have hev:(k*2^52+q)%2=0:=by omega
    rw[hq2,Fh k hk]
    rw[hq2]at hev
    rcases hlow with h|h
    ·omega
    ·exact(Nat.lt_or_eq_of_le h).imp id fun h1=>⟨h1,hev⟩
theorem ny(x y k:Nat)(hy:0<y)(hq:2^53<=bC x y ((k:Int)-1074)):E*2^k*y<=2*x*U:=by
 have hl:=nB x y k hy
 have hE:=GJ
 generalize bC x y ((k:Int)-1074)=q at *
 have h1:E*2^k*y+2^k*y=(E+1)*2^k*y:=by rw[Nat.mul_assoc,Nat.mul_assoc (E+1),Nat.succ_mul]
 have h2:(E+1)*2^k*y<=2*q*2^k*y:=Nat.mul_le_mul_right _ (Nat.mul_le_mul_right _ (by omega))
 omega
theorem oz(x y k:Nat)(hx:x≠0)(hk:0<k)(h:(k:Int)-1074=(bd x:Int)-bd y-53):E*2^(k-1)*y<=2*x*U:=by
 have hx1:=lV x hx
 have hy1:=ku y
 have bx:=iA hx
 have hE:=GJ
 have h1:2^54*2^(k-1)*2^bd y=2*2^(bd x-1)*U:=by
  unfold U
  rw[<-Nat.pow_add,<-Nat.pow_add,Nat.mul_comm 2 (2^(bd x-1)),<-Nat.pow_succ,<-Nat.pow_add]
  congr 1
  omega
 have h2:E*2^(k-1)*y<=2^54*2^(k-1)*2^bd y:=Nat.mul_le_mul (Nat.mul_le_mul_right _ (by omega)) (Nat.le_of_lt hy1)
 have h3:2*2^(bd x-1)*U<=2*x*U:=Nat.mul_le_mul_right _ (Nat.mul_le_mul_left _ hx1)
 omega
def wb(v:Nat):Nat×Bool:=if v<2047*2^52 then(v,true) else(0,false)
theorem nr(k q:Nat)(hq:q<2^53)(h:k=0\/2^52<=q):dx q ((k:Int)-1074)=wb (k*2^52+q):=by
 unfold dx wb
 by_cases h1:q<2^52
 ·rw[if_pos h1,if_pos (by omega)]
  have:k=0:=by omega
  subst this;simp
 ·rw[if_neg h1]
  by_cases h2:971<(k:Int)-1074
  ·rw[if_pos h2,if_neg (by omega)]
  ·rw[if_neg h2,if_pos (by omega)]
   rw[show ((k:Int)-1074+1075).toNat=k+1 by omega,show (k+1)*2^52+(q-2^52)=k*2^52+q by omega]
theorem Ab(x y:Nat)(hy:0<y):∃v,vQ x y v/\dy x y=wb v:=by
 by_cases h0:x=0
 ·refine⟨0,⟨Or.inl ?_,Or.inl rfl⟩,?_⟩
  ·subst h0
   rw[Nat.mul_zero,Nat.zero_mul]
   exact Nat.mul_pos (by decide) hy
  ·rw[dy,if_pos h0];decide
 ·have hf:-1074<=cB x y:=Int.le_max_right ..
  have key:∀k:Nat,bC x y ((k:Int)-1074)<2^53->(k=0\/E*2^(k-1)*y<=2*x*U)->∃v,vQ x y v/\dx (bC x y ((k:Int)-1074)) ((k:Int)-1074)=wb v:=by
   intro k hq hl
   obtain⟨h1,h2⟩:=sH x y k hy hq hl
   exact⟨_,h1,nr k _ hq h2⟩
  obtain⟨k,hk⟩:∃k:Nat,cB x y=(k:Int)-1074:=⟨(cB x y+1074).toNat,by omega⟩
  have e1:(k:Int)-1074+1=((k+1:Nat):Int)-1074:=by omega
  have e2:(k:Int)-1074+2=((k+2:Nat):Int)-1074:=by omega
  have h3:=Co x y h0 hy
  rw[dy,if_neg h0]
  rw[hk]at h3⊢
  rw[e2]at h3⊢
  rw[e1]
  split
  ·rename_i hb
   refine key k ((cf _ _).1 hb) ?_
   rcases Nat.eq_zero_or_pos k with h|h
   ·exact Or.inl h
   ·exact Or.inr (oz x y k h0 h (by unfold cB at hk;omega))
  ·rename_i hb
   split
   ·rename_i hb1
    refine key (k+1) ((cf _ _).1 hb1) (Or.inr ?_)
    exact ny x y k hy (by have:=mt (cf _ _).2 hb;omega)
   ·rename_i hb1
    refine key (k+2) (by omega) (Or.inr ?_)
    exact ny x y (k+1) hy (by have:=mt (cf _ _).2 hb1;omega)
end Go.Dn.Dec
namespace Go.Dn.Dec
open Go.Proofs
theorem f46(n:Int):rk Tryz.prog aE (Task.call 100 [V.d (D.i .u64 n)] [])=aC (rk Tryz.prog aE) ( Tr.call (Task.at_ 100 0 [false,true,true] (sv 17 [(0,V.d (D.i .u64 n)),(3,V.d (D.s []))]) [] []) Tr.ret):=
 aF (by kernel_rfl)
theorem f19(n:Int):rk Tryz.prog aE (Task.call 47 [V.d (D.i .i64 n)] [])=aC (rk Tryz.prog aE) ( aT (decide (n<0)) (Tr.call (Task.call 100 [V.d (D.i .u64 (IntKind.u64.wrap (IntKind.u64.wrap (IntKind.i64.wrap (0-IntKind.i64.wrap (n+1)))+1)))] []) fun o_0=>aM o_0.snd.isEmpty (aW o_0.fst fun d_1=>fF d_1 fun l_2=>aM (decide (1+l_2.length<4611686018427387904)) (Tr.ret (V.d (D.s ([45]++l_2)),[])))) (Tr.call (Task.call 100 [V.d (D.i .u64 (IntKind.u64.wrap n))] []) fun o_3=>aM o_3.snd.isEmpty (aW o_3.fst fun d_4=>fF d_4 fun l_5=>Tr.ret (V.d (D.s l_5),[])))):=
 aF (by kernel_rfl)
theorem ER(n_0:Int)(l_1:List UInt8):rk Tryz.prog aE (Task.at_ 100 0 [false,true,true] (sv 17 [(0,V.d (D.i .u64 n_0)),(3,V.d (D.s l_1))]) [] [])=aC (rk Tryz.prog aE) ( aM (decide (1+l_1.length<4611686018427387904)) (aT (IntKind.u64.wrap (n_0.tdiv 10)==0) (Tr.ret (V.d (D.s ([UInt8.ofNat (IntKind.u8.wrap (IntKind.u64.wrap (48+n_0.tmod 10))).toNat]++l_1)),[])) (Tr.call (Task.at_ 100 0 [false,true,true] (sv 17 [(0,V.d (D.i .u64 (IntKind.u64.wrap (n_0.tdiv 10)))),(3,V.d (D.s ([UInt8.ofNat (IntKind.u8.wrap (IntKind.u64.wrap (48+n_0.tmod 10))).toNat]++l_1)))]) [] []) Tr.ret))):=
 aF (by kernel_rfl)
end Go.Dn.Dec
namespace Go.Dn.Dec
set_option exponentiation.threshold 5000000
theorem oQ(k:Nat)(h:k<10):(UInt8.ofNat (48+k)).toNat=48+k:=by rw[UInt8.toNat_ofNat'];omega
theorem mY(k:Nat)(h:k<10):aG (UInt8.ofNat (48+k))=true:=by rw[dW,oQ k h];omega
theorem pL(k:Nat)(h:k<10):bS (UInt8.ofNat (48+k))=k:=by rw[bS,oQ k h];omega
theorem ax(n:Nat):∀c∈fM n,aG c=true:=by
 induction n using Nat.strongRecOn with
 |ind n ih=>
  intro c hc
  rw[kf]at hc
  split at hc
  ·rename_i h
   rw[List.mem_singleton]at hc
   rw[hc];exact mY n h
  ·rename_i h
   rcases List.mem_append.1 hc with hc|hc
   ·exact ih (n / 10) (by omega) c hc
   ·rw[List.mem_singleton]at hc
    rw[hc];exact mY _ (Nat.mod_lt _ (by decide))
theorem yD(v:Nat)(a b:List UInt8):eU v (a++b)=eU (eU v a) b:=by simp[eU,List.foldl_append]
theorem lb(n:Nat):cy (fM n)=n:=by
 induction n using Nat.strongRecOn with
 |ind n ih=>
  rw[kf]
  split
  ·rename_i h
   show 0*10+bS _=n
   rw[pL n h];omega
  ·rename_i h
   have h1:=ih (n / 10) (by omega)
   unfold cy at h1⊢
   rw[yD,h1]
   show n / 10*10+bS _=n
   rw[pL _ (Nat.mod_lt _ (by decide))];omega
theorem wG(d:List UInt8):∀v,eU v d=v*10^d.length+cy d:=by
 induction d with
 |nil=>intro v;simp[eU,cy]
 |cons c d ih=>
  intro v
  have h1:eU v (c::d)=eU (v*10+bS c) d:=rfl
  have h2:cy (c::d)=eU (0*10+bS c) d:=rfl
  rw[h1,h2,ih (v*10+bS c),ih (0*10+bS c),Nat.zero_mul,Nat.zero_add,List.length_cons,Nat.pow_succ,Nat.add_mul,Nat.mul_assoc,Nat.mul_comm 10 (10^d.length)]
  omega
theorem yC(a b:List UInt8):cy (a++b)=cy a*10^b.length+cy b:=by rw[cy,yD,wG];rfl
theorem rT(n:Nat):cy (List.replicate n 48)=0:=by
 induction n with
 |zero=>rfl
 |succ n ih=>
  rw[List.replicate_succ']
  rw[yC,ih];rfl
theorem uh(n:Nat)(h:n≠0):(fM n).dropWhile (· == 48)=fM n:=by
 have key:∃c r,fM n=c::r/\(c==48)=false:=by
  induction n using Nat.strongRecOn with
  |ind n ih=>
   rw[kf]
   split
   ·rename_i h9
    refine⟨_,_,rfl,?_⟩
    rw[beq_eq_false_iff_ne]
    intro e
    have:=congrArg UInt8.toNat e
    rw[oQ n h9]at this
    exact h (by simpa using this)
   ·obtain⟨c,r,e1,e2⟩:=ih (n / 10) (by omega) (by omega)
    exact⟨c,r++_,by rw[e1,List.cons_append],e2⟩
 obtain⟨c,r,e1,e2⟩:=key
 rw[e1,List.dropWhile_cons,e2];simp
theorem KO(w t:List UInt8)(hw:∀c∈w,aG c=true)(ht:t.takeWhile aG=[]):(w++t).takeWhile aG=w:=by
 induction w with
 |nil=>exact ht
 |cons c w ih=>
  rw[List.cons_append,List.takeWhile_cons,hw c (by simp),if_pos rfl,ih fun c h=>hw c (by simp[h])]
theorem Km(w t:List UInt8)(hw:∀c∈w,aG c=true)(ht:t.dropWhile aG=t):(w++t).dropWhile aG=t:=by
 induction w with
 |nil=>exact ht
 |cons c w ih=>
  rw[List.cons_append,List.dropWhile_cons,hw c (by simp),if_pos rfl,ih fun c h=>hw c (by simp[h])]
def Bx(t:List UInt8):Prop:=t=[]\/∃c r,t=c::r/\aG c=false
theorem Bx.take{t:List UInt8}(h:Bx t):t.takeWhile aG=[]:=by
 rcases h with rfl|⟨c,r,rfl,h⟩
 ·rfl
 ·rw[List.takeWhile_cons,h];simp
theorem Bx.drop{t:List UInt8}(h:Bx t):t.dropWhile aG=t:=by
 rcases h with rfl|⟨c,r,rfl,h⟩
 ·rfl
 ·rw[List.dropWhile_cons,h];simp
def Sign(sg:List UInt8)(neg:Bool):Prop:=(sg=[]/\neg=false)\/(sg=[43]/\neg=false)\/(sg=[45]/\neg=true)
theorem qp{sg:List UInt8}{neg:Bool}(h:Sign sg neg){w t:List UInt8}(hw:∀c∈w,aG c=true)(hne:w≠[]):bM (sg++(w++t))=(neg,w++t):=by
 rcases h with⟨rfl,rfl⟩|⟨rfl,rfl⟩|⟨rfl,rfl⟩
 ·cases w with
  |nil=>exact absurd rfl hne
  |cons c w=>
   have hc:=hw c (by simp)
   have h1:c≠43:=fun e=>by rw[e]at hc;exact absurd hc (by decide)
   have h2:c≠45:=fun e=>by rw[e]at hc;exact absurd hc (by decide)
   simp[bM,h1,h2]
 ·simp[bM]
 ·simp[bM]
def vU(neg:Bool)(v:Nat):Nat×Int:=if v<2047*2^52 then(qD neg v,0) else(0,5)
theorem yM(neg:Bool)(w p:List UInt8)(en:Bool)(k:Nat)(hk:k<=400):kC ⟨neg,w,p,en,fM k⟩=((if en=true then -(k:Int) else(k:Int)),true):=by
 have h1:cy ((fM k).dropWhile (· == 48))=k/\((fM k).dropWhile (· == 48)).length<=3:=by
  by_cases h:k=0
  ·subst h;decide
  ·rw[uh k h]
   exact⟨lb k,iB 3 k (by decide) (by omega)⟩
 unfold kC
 rw[if_neg (by simp only;omega)]
 simp only[h1.1]
 cases en
 ·simp;omega
 ·simp;omega
theorem Ca(m:Int)(x:Nat):gf m x=(x*10^m.toNat,10^(-m).toNat):=by
 unfold gf
 split
 ·rename_i h
  rw[show (-m).toNat=0 by omega]
 ·rename_i h
  rw[show m.toNat=0 by omega,Nat.pow_zero,Nat.mul_one]
def wJ(t:List UInt8)(n:Int):Prop:=
 (t=[]/\n=0)\/∃c s en k,(c=101\/c=69)/\t=c::(s++fM k)/\Sign s en/\k<=400/\n=if en=true then -(k:Int) else(k:Int)
def Part(t p:List UInt8):Prop:=(t=[]/\p=[])\/(t=46::p/\p≠[]/\∀c∈p,aG c=true)
theorem wJ.noDig{t:List UInt8}{n:Int}(h:wJ t n):Bx t:=by
 rcases h with⟨rfl,-⟩|⟨c,s,en,k,hc,rfl,-⟩
 ·exact Or.inl rfl
 ·exact Or.inr ⟨c,_,rfl,by rcases hc with rfl|rfl<;>decide⟩
theorem Ae(neg:Bool)(w p:List UInt8)(hne:w≠[]){t:List UInt8}{n:Int}(h:wJ t n):∃en d,fG neg w p t=(⟨neg,w,p,en,d⟩,true)/\kC ⟨neg,w,p,en,d⟩=(n,true):=by
 unfold fG
 rw[if_neg (fun h=>hne h.1)]
 rcases h with⟨rfl,rfl⟩|⟨c,s,en,k,hc,rfl,hs,hk,rfl⟩
 ·exact⟨false,[],rfl,rfl⟩
 ·refine⟨en,fM k,?_,yM neg w p en k hk⟩
  have hcc:¬(c≠101/\c≠69):=fun⟨h1,h2⟩=>hc.elim h1 h2
  have h1:=qp hs (t:=[]) (ax k) (G7 k)
  rw[List.append_nil]at h1
  have h2:=KO (fM k) [] (ax k) rfl
  have h3:=Km (fM k) [] (ax k) rfl
  rw[List.append_nil]at h2 h3
  simp only[if_neg hcc,h1,h2,h3]
  simp[G7]
theorem nv{sg:List UInt8}{neg:Bool}(hsg:Sign sg neg){w:List UInt8}(hw:∀c∈w,aG c=true)(hne:w≠[]){pt p:List UInt8}(hp:Part pt p){xt:List UInt8}{n:Int}(hx:wJ xt n)(hl:w.length+p.length<=60):
  ∃v,vQ (cy (w++p)*10^(n-p.length).toNat) (10^(-(n-p.length)).toNat) v/\dc (sg++(w++(pt++xt)))=vU neg v:=by
 have hnd:Bx (pt++xt):=by
  rcases hp with⟨rfl,-⟩|⟨rfl,-⟩
  ·exact hx.noDig
  ·exact Or.inr ⟨46,_,rfl,by decide⟩
 have h1:=qp hsg (t:=pt++xt) hw hne
 obtain⟨en,d,h2,h3⟩:=Ae neg w p hne hx
 have hs:splitB (sg++(w++(pt++xt)))=(⟨neg,w,p,en,d⟩,true):=by
  unfold splitB
  simp only[h1,KO w _ hw hnd.take,Km w _ hw hnd.drop]
  rcases hp with⟨rfl,rfl⟩|⟨rfl,hpn,hpd⟩
  ·rw[List.nil_append]
   have hx':=hx
   rcases hx' with⟨rfl,-⟩|⟨c,s,en,k,hc,rfl,-⟩
   ·exact h2
   ·have:c≠46:=by rcases hc with rfl|rfl<;>decide
    simp only[if_neg this]
    exact h2
  ·simp only[List.cons_append,if_true,KO p _ hpd hx.noDig.take,Km p _ hpd hx.noDig.drop,if_neg hpn]
   exact h2
 obtain⟨v,h4,h5⟩:=Ab (cy (w++p)*10^(n-p.length).toNat) (10^(-(n-p.length)).toNat) (Nat.pow_pos (by decide))
 refine⟨v,h4,?_⟩
 unfold dc vU
 rw[hs]
 simp only[h3,Ca,h5]
 rw[if_neg (by decide),if_neg (by omega),if_neg (by decide)]
 unfold wb
 by_cases hv:v<2047*2^52
 ·simp only[if_pos hv]
  rw[if_neg (by decide)]
 ·simp only[if_neg hv]
  simp
theorem xJ{n:Int}(h1:-400<=n)(h2:n<=400):wJ (101::js n) n:=by
 right
 unfold js
 by_cases h:n<0
 ·exact⟨101,[45],true,n.natAbs,Or.inl rfl,by rw[if_pos h];rfl,Or.inr (Or.inr ⟨rfl,rfl⟩),by omega,by rw[if_pos rfl];omega⟩
 ·exact⟨101,[],false,n.toNat,Or.inl rfl,by rw[if_neg h];rfl,Or.inl ⟨rfl,rfl⟩,by omega,by rw[if_neg (by decide)];omega⟩
theorem oh:Sign [] false:=Or.inl ⟨rfl,rfl⟩
end Go.Dn.Dec
namespace Go.Dn.Dec
open Go.Proofs
set_option exponentiation.threshold 5000000
theorem vI:∀(k n:Nat) (l:List UInt8),n<10^(k+1)->n<18446744073709551616->l.length+k<=1000->
  rk Tryz.prog aE (Task.at_ 100 0 [false,true,true] (sv 17 [(0,V.d (D.i IntKind.u64 (n:Int))),(3,V.d (D.s l))]) [] [])=some (.d (.s (fM n++l)),[])
 |k,n,l,h,h64,hl=>by
  rw[ER]
  have e1:(n:Int).tdiv 10=((n / 10:Nat):Int):=dH n 10
  have e2:(n:Int).tmod 10=((n%10:Nat):Int):=ia n 10
  have w1:IntKind.u64.wrap ((n / 10:Nat):Int)=((n / 10:Nat):Int):=by rw[aO];omega
  have w2:IntKind.u64.wrap (48+((n%10:Nat):Int))=((48+n%10:Nat):Int):=by rw[aO];omega
  have w3:IntKind.u8.wrap ((48+n%10:Nat):Int)=((48+n%10:Nat):Int):=by rw[wrap_u8]<;>omega
  have hl1:1+l.length<4611686018427387904:=by omega
  simp only[e1,e2,w1,w2,w3,Int.toNat_natCast,aR,decide_eq_true hl1,if_true,aP,aD,aA]
  by_cases h9:n<10
  ·have:((n / 10:Nat):Int)==0:=by rw[beq_iff_eq];omega
   rw[if_pos this,kf n,if_pos h9,Nat.mod_eq_of_lt h9]
  ·have:¬(((n / 10:Nat):Int)==0)=true:=by rw[beq_iff_eq];omega
   rw[if_neg this]
   cases k with
   |zero=>simp at h;omega
   |succ k=>
    rw[vI k (n / 10) _ (by rw[Nat.pow_succ]at h;omega) (by omega) (by simp;omega)]
    rw[kf n,if_neg h9,List.append_assoc]
theorem Bj(n:Nat)(h:n<18446744073709551616):rk Tryz.prog aE (Task.call 100 [V.d (D.i IntKind.u64 (n:Int))] [])=some (.d (.s (fM n)),[]):=by
 rw[f46]
 have:=vI 20 n [] (Nat.lt_trans h (by decide)) h (by decide)
 rw[List.append_nil]at this
 simp only[aA,this]
theorem ID(n:Int)(h1:-9223372036854775808<=n)(h2:n<=9223372036854775807):rk Tryz.prog aE (Task.call 47 [V.d (D.i IntKind.i64 n)] [])=some (.d (.s (js n)),[]):=by
 rw[f19]
 by_cases h:n<0
 ·have w1:IntKind.i64.wrap (n+1)=n+1:=by rw[wrap_i64]<;>omega
  have w2:IntKind.i64.wrap (0-(n+1))=0-(n+1):=by rw[wrap_i64]<;>omega
  have w:IntKind.u64.wrap (IntKind.u64.wrap (IntKind.i64.wrap (0-IntKind.i64.wrap (n+1)))+1)=(n.natAbs:Int):=by
   rw[w1,w2,aO,aO];omega
  have ht:=Bj n.natAbs (by omega)
  have hl:=iB 20 n.natAbs (by decide) (by simp;omega)
  have hl1:1+(fM n.natAbs).length<4611686018427387904:=by omega
  simp only[aP,decide_eq_true h,if_true,w,aZ,ht,Option.bind_some,List.isEmpty_nil,aR,bj,fU,decide_eq_true hl1,aD]
  unfold js
  rw[if_pos h];rfl
 ·have w:IntKind.u64.wrap n=(n.toNat:Int):=by rw[aO];omega
  have ht:=Bj n.toNat (by omega)
  simp only[aP,decide_eq_false h,Bool.false_eq_true,if_false,w,aZ,ht,Option.bind_some,List.isEmpty_nil,aR,if_true,bj,fU,aD]
  unfold js
  rw[if_neg h]
end Go.Dn.Dec
namespace Go.Dn.Dec
open Go.Proofs
set_option exponentiation.threshold 5000000
end Go.Dn.Dec
namespace Go.Dn.Dec
open Go.Proofs
set_option exponentiation.threshold 5000000
theorem vw{x y v x' y':Nat}(h:vQ x y v)(hy:0<y)(hy':0<y')(e:x*y'=x'*y):vQ x' y' v:=by
 obtain⟨w,nw,-⟩:=Ab x' y' hy'
 rw[HB h nw hy hy' e];exact nw
end Go.Dn.Dec
namespace Go.Dn.Dec
open Go.Proofs
set_option exponentiation.threshold 5000000
theorem BU(c:Nat):gr c<9007199254740992*(gr (c+1)-gr c):=by
 obtain⟨k,q,h1,h2,rfl⟩:=EY c
 rw[EX k q (by omega) h2,BO k q h1 h2,Nat.add_mul,Nat.one_mul,Nat.add_sub_cancel_left]
 exact Nat.mul_lt_mul_of_pos_right h1 (Nat.pow_pos (by decide))
theorem Ah(c:Nat)(h:0<c):gr c<=9007199254740992*(gr c-gr (c-1)):=by
 obtain⟨k,q,h1,h2,rfl⟩:=EY c
 by_cases hb:k=0\/2^52<q
 ·have e:k*2^52+q-1=k*2^52+(q-1):=by omega
  have hs:q*2^k-(q-1)*2^k=2^k:=by rw[<-Nat.sub_mul,show q-(q-1)=1 by omega,Nat.one_mul]
  rw[e,EX k q (by omega) h2,EX k (q-1) (by omega) (by omega),hs]
  exact Nat.mul_le_mul_right _ (Nat.le_of_lt h1)
 ·have hk:0<k:=by omega
  have hq:q=2^52:=by omega
  obtain⟨r,hr⟩:∃r,r+1=2^53:=⟨2^53-1,by omega⟩
  have e:k*2^52+q-1=(k-1)*2^52+r:=by omega
  rw[e,EX k q (by omega) h2,EX (k-1) r (by omega) (by omega),FJ hk]
  have h3:q*(2^(k-1)*2)=(r+1)*2^(k-1):=by rw[hr,hq,Nat.mul_comm (2^(k-1)) 2,<-Nat.mul_assoc]
  rw[h3,Nat.add_mul,Nat.one_mul,Nat.add_sub_cancel_left,<-Nat.succ_mul,Nat.succ_eq_add_one,hr]
  exact Nat.le_refl _
theorem CB{x y P Q u g T:Nat}(hy:0<y)(hx:x*u=g*y)(h:T*(y*P)<=x*Q):T*(P*u)<=g*Q:=by
 have:=Nat.mul_le_mul_right u h
 have a1:T*(y*P)*u=T*(P*u)*y:=by ac_rfl
 have a2:x*Q*u=g*Q*y:=by rw[Lj,hx,Lj]
 rw[a1,a2]at this
 exact Nat.le_of_mul_le_mul_right this hy
theorem CN{x y P Q u g q2:Nat}(hy:0<y)(hx:x*u=g*y)(h:q2*(y*P)<=2*(x*Q)+y*P):q2*P*u<=2*(g*Q)+P*u:=by
 have:=Nat.mul_le_mul_right u h
 have a1:q2*(y*P)*u=q2*P*u*y:=by ac_rfl
 have a2:(2*(x*Q)+y*P)*u=(2*(g*Q)+P*u)*y:=by
  rw[Nat.add_mul,Nat.add_mul,Nat.mul_assoc 2,Lj x Q u,hx,Lj g y Q,<-Nat.mul_assoc 2,show y*P*u=P*u*y by ac_rfl]
 rw[a1,a2]at this
 exact Nat.le_of_mul_le_mul_right this hy
theorem CO{x y P Q u g q2:Nat}(hy:0<y)(hx:x*u=g*y)(h:2*(x*Q)<=q2*(y*P)+y*P):2*(g*Q)<=q2*P*u+P*u:=by
 have:=Nat.mul_le_mul_right u h
 have a1:2*(x*Q)*u=2*(g*Q)*y:=by
  rw[Nat.mul_assoc 2,Lj x Q u,hx,Lj g y Q,<-Nat.mul_assoc 2]
 have a2:(q2*(y*P)+y*P)*u=(q2*P*u+P*u)*y:=by
  rw[Nat.add_mul,Nat.add_mul,show q2*(y*P)*u=q2*P*u*y by ac_rfl,show y*P*u=P*u*y by ac_rfl]
 rw[a1,a2]at this
 exact Nat.le_of_mul_le_mul_right this hy
theorem yp(a b c Q:Nat)(h:a+b=c):a*Q+b*Q=c*Q:=by rw[<-Nat.add_mul,h]
theorem qe{x y c q P Q:Nat}(hy:0<y)(hQ:0<Q)(hc:0<c)(hx:x*U=gr c*y)(h16:10000000000000000*(y*P)<=x*Q)
  (h1:2*q*(y*P)<=2*(x*Q)+y*P) (h2:2*(x*Q)<=2*q*(y*P)+y*P):vQ (q*P) Q c:=by
 have m1:=CB hy hx h16
 have m2:=CN hy hx h1
 have m3:=CO hy hx h2
 rw[Nat.mul_assoc 2 q P]at m2 m3
 refine ta ?_ (Or.inr ?_)
 ·have g:=BU c
  have gl:=Iq c
  have e:iX c*Q=2*(gr c*Q)+(gr (c+1)-gr c)*Q:=by
   rw[<-Nat.mul_assoc];exact(yp _ _ _ Q (by unfold iX;omega)).symm
  have k1:=Nat.mul_lt_mul_of_pos_right g hQ
  rw[Nat.mul_assoc]at k1
  rw[e]
  generalize (gr (c+1)-gr c)*Q=G at *
  generalize gr c*Q=A at *
  generalize P*U=B at *
  generalize 2*(q*P)*U=D at *
  omega
 ·have g:=Ah c hc
  have gl:=Iq (c-1)
  rw[Nat.sub_add_cancel hc]at gl
  have e:iX (c-1)*Q+(gr c-gr (c-1))*Q=2*(gr c*Q):=by
   rw[<-Nat.mul_assoc];exact yp _ _ _ Q (by unfold iX;rw[Nat.sub_add_cancel hc];omega)
  have k1:=Nat.mul_le_mul_right Q g
  rw[Nat.mul_assoc]at k1
  have k2:0<(gr c-gr (c-1))*Q:=Nat.mul_pos (by omega) hQ
  generalize (gr c-gr (c-1))*Q=G at *
  generalize iX (c-1)*Q=M at *
  generalize gr c*Q=A at *
  generalize P*U=B at *
  generalize 2*(q*P)*U=D at *
  omega
theorem rK(x y:Nat)(h0:cS x y (-400)=false):∀k:Nat,cS x y (kN x y k)=false/\-400<=kN x y k/\kN x y k<=(k:Int)-400/\(kN x y k=(k:Int)-400\/cS x y (kN x y k+1)=true)
 |0=>⟨h0,by simp[kN],by simp[kN],Or.inl (by simp[kN])⟩
 |k+1=>by
  rw[kN]
  split
  ·rename_i h
   obtain⟨h1,h2,h3,h4⟩:=rK x y h0 k
   refine⟨h1,h2,by omega,Or.inr ?_⟩
   rcases h4 with h4|h4
   ·rw[h4,show (k:Int)-400+1=((k+1:Nat):Int)-400 by omega];exact h
   ·exact h4
  ·rename_i h
   exact⟨by simpa using h,by omega,by omega,Or.inl rfl⟩
theorem Ev:((List.range 1101).all fun d=>decide (2^(d+1)<=10^(d*30103 / 100000+2)))=true:=by decide +kernel
theorem Eu:((List.range 1101).all fun d=>decide (10^(d*30103 / 100000)*2<=2^d*100))=true:=by decide +kernel
theorem Bd(x y:Nat)(hy0:0<y)(hx:qP x)(hy:qP y):cS x y ((((bd x:Int)-bd y)*30103).tdiv 100000+2)=true:=by
 have lx:=hx.bd
 have ly:=hy.bd
 have bx:=ku x
 have by_:=lV y (by omega)
 have py:=iA (n:=y) (by omega)
 rcases Int.le_total 0 ((bd x:Int)-bd y)with h|h
 ·obtain⟨d,hd⟩:∃d:Nat,(bd x:Int)-bd y=d:=⟨((bd x:Int)-bd y).toNat,by omega⟩
  rw[hd]
  have e:((d:Int)*30103).tdiv 100000+2=((d*30103 / 100000+2:Nat):Int):=by
   have:((d:Int)*30103).tdiv 100000=((d*30103 / 100000:Nat):Int):=dH (d*30103) 100000
   rw[this];omega
  have hc:=List.all_eq_true.1 Ev d (List.mem_range.2 (by omega))
  rw[decide_eq_true_eq]at hc
  rw[e]
  unfold cS
  rw[if_neg (by omega),Int.toNat_natCast]
  generalize d*30103 / 100000+2=t at hc
  have e2:2^bd x=2^(bd y-1)*2^(d+1):=by rw[<-Nat.pow_add];congr 1;omega
  have h3:=Nat.mul_le_mul by_ hc
  exact decide_eq_true (by omega)
 ·obtain⟨d,hd⟩:∃d:Nat,(bd x:Int)-bd y = -(d:Int):=⟨((bd y:Int)-bd x).toNat,by omega⟩
  rw[hd]
  have e:(-(d:Int)*30103).tdiv 100000+2=2-((d*30103 / 100000:Nat):Int):=by
   have:((d:Int)*30103).tdiv 100000=((d*30103 / 100000:Nat):Int):=dH (d*30103) 100000
   rw[Int.neg_mul,Int.neg_tdiv,this];omega
  rw[e]
  have hc:=List.all_eq_true.1 Eu d (List.mem_range.2 (by omega))
  rw[decide_eq_true_eq]at hc
  generalize d*30103 / 100000=t at hc
  have e2:2^bd x*2^d=2*2^(bd y-1):=by rw[<-Nat.pow_add,Nat.mul_comm 2,<-Nat.pow_succ];congr 1;omega
  have h3:x*2^d<2*y:=by
   have:=Nat.mul_lt_mul_of_pos_right bx (show 0<2^d from Nat.pow_pos (by decide))
   omega
  have h4:x*(10^t*2)<=x*(2^d*100):=Nat.mul_le_mul_left _ hc
  have h5:x*(2^d*100)=x*2^d*100:=by rw[Nat.mul_assoc]
  have h6:x*(10^t*2)=x*10^t*2:=by rw[Nat.mul_assoc]
  unfold cS
  by_cases ht:2-(t:Int)<0
  ·rw[if_pos ht,show (-(2-(t:Int))).toNat=t-2 by omega]
   have e3:10^t=10^(t-2)*100:=by rw[show (100:Nat)=10^2 from rfl,<-Nat.pow_add];congr 1;omega
   have e4:x*10^t=x*10^(t-2)*100:=by rw[e3,Nat.mul_assoc]
   exact decide_eq_true (by omega)
  ·rw[if_neg ht]
   have ht2:t<=2:=by omega
   have e3:100=10^(2-(t:Int)).toNat*10^t:=by rw[<-Nat.pow_add,show (2-(t:Int)).toNat+t=2 by omega]
   have e4:y*10^(2-(t:Int)).toNat*10^t=y*100:=by rw[Nat.mul_assoc,<-e3]
   have hp:0<10^t:=Nat.pow_pos (by decide)
   refine decide_eq_true (Nat.lt_of_mul_lt_mul_right (a:=10^t) ?_)
   omega
theorem rL(x y:Nat)(hx0:0<x)(hy0:0<y)(hx:qP x)(hy:qP y):∃n:Int,kN x y ((((bd x:Int)-bd y)*30103).tdiv 100000+401).toNat=n/\cS x y n=false/\cS x y (n+1)=true/\-400<=n/\n<=350:=by
 have lx:=hx.bd
 have ly:=hy.bd
 have hb:=qK ((bd x:Int)-bd y) (by omega) (by omega)
 have hs:=Bd x y hy0 hx hy
 obtain⟨h1,h2,h3,h4⟩:=rK x y (Jm hx0 hy) ((((bd x:Int)-bd y)*30103).tdiv 100000+401).toNat
 generalize (((bd x:Int)-bd y)*30103).tdiv 100000=z at *
 refine⟨_,rfl,h1,?_,h2,by omega⟩
 rcases h4 with h4|h4
 ·rw[h4,show (((z+401).toNat:Nat):Int)-400+1=z+2 by omega];exact hs
 ·exact h4
def nP(n:Int):Nat:=10^n.toNat
def o8(n:Int):Nat:=10^(-n).toNat
theorem rp(n:Int):0<nP n:=Nat.pow_pos (by decide)
theorem rq(n:Int):0<o8 n:=Nat.pow_pos (by decide)
theorem nJ(x y:Nat)(n:Int):gu x y n=cI (x*o8 n) (y*nP n):=by
 unfold gu nP o8
 split
 ·rename_i h;rw[show n.toNat=0 by omega,Nat.pow_zero,Nat.mul_one]
 ·rename_i h;rw[show (-n).toNat=0 by omega,Nat.pow_zero,Nat.mul_one]
theorem tP(x y:Nat)(n:Int):cS x y n=decide (x*o8 n<y*nP n):=by
 unfold cS nP o8
 split
 ·rename_i h;rw[show n.toNat=0 by omega,Nat.pow_zero,Nat.mul_one]
 ·rename_i h;rw[show (-n).toNat=0 by omega,Nat.pow_zero,Nat.mul_one]
theorem zP(n m:Int)(k:Nat)(h:n=m+k):nP n*o8 m=10^k*(nP m*o8 n):=by
 unfold nP o8
 rw[<-Nat.pow_add,<-Nat.pow_add,<-Nat.pow_add];congr 1;omega
theorem lf(x y:Nat)(n m:Int)(k:Nat)(h:n=m+k):cS x y n=decide (x*o8 m<y*nP m*10^k):=by
 rw[tP]
 have e:=zP n m k h
 congr 1
 apply propext
 have a1:x*o8 n*(nP m*o8 m)=x*o8 m*(nP m*o8 n):=by ac_rfl
 have a2:y*nP n*(nP m*o8 m)=y*nP m*10^k*(nP m*o8 n):=by
  have:y*nP n*(nP m*o8 m)=y*nP m*(nP n*o8 m):=by ac_rfl
  rw[this,e,Nat.mul_assoc (y*nP m)]
 have p1:0<nP m*o8 m:=Nat.mul_pos (rp _) (rq _)
 have p2:0<nP m*o8 n:=Nat.mul_pos (rp _) (rq _)
 constructor
 ·intro h
  have:=Nat.mul_lt_mul_of_pos_right h p1
  rw[a1,a2]at this
  exact Nat.lt_of_mul_lt_mul_right this
 ·intro h
  have:=Nat.mul_lt_mul_of_pos_right h p2
  rw[<-a1,<-a2]at this
  exact Nat.lt_of_mul_lt_mul_right this
end Go.Dn.Dec
namespace Go.Dn.Dec
open Go.Proofs
set_option exponentiation.threshold 5000000
theorem jd:∀(k n:Nat),10^k<=n->n<10^(k+1)->(fM n).length=k+1
 |0,n,_,h=>by rw[kf,if_pos (by simpa using h)];rfl
 |k+1,n,h1,h2=>by
  have h9:¬n<10:=by
   have:10^1<=10^(k+1):=Nat.pow_le_pow_right (by decide) (by omega)
   omega
  rw[kf,if_neg h9,List.length_append,jd k (n / 10) (by rw[Nat.pow_succ]at h1;omega) (by rw[Nat.pow_succ]at h2;omega)]
  rfl
theorem mn(x:List UInt8):∃j,x=trimRightB 48 x++List.replicate j 48:=by
 refine⟨(x.reverse.takeWhile (· == 48)).length,?_⟩
 have h1:x.reverse.takeWhile (· == 48)=List.replicate (x.reverse.takeWhile (· == 48)).length 48:=by
  refine List.eq_replicate_iff.2 ⟨rfl,fun c hc=>?_⟩
  have:=List.all_takeWhile (l:=x.reverse) (p:=(· == (48:UInt8)))
  rw[List.all_eq_true]at this
  exact beq_iff_eq.1 (this c hc)
 have h2:x.reverse=x.reverse.takeWhile (· == 48)++x.reverse.dropWhile (· == 48):=(List.takeWhile_append_dropWhile).symm
 have h3:=congrArg List.reverse h2
 rw[List.reverse_reverse,List.reverse_append]at h3
 unfold trimRightB
 generalize (x.reverse.takeWhile (· == 48)).length=j at h1
 rw[h1,List.reverse_replicate]at h3
 exact h3
theorem wh(d:List UInt8)(hl:d.length=17)(hd:∀c∈d,aG c=true):FP d≠[]/\(∀c∈FP d,aG c=true)/\(FP d).length<=16/\cy (d.take 1++FP d)*10^16=cy d*10^(FP d).length:=by
 obtain⟨j,hj⟩:=mn (d.drop 1)
 have e:d=d.take 1++d.drop 1:=(List.take_append_drop 1 d).symm
 have lr:(d.drop 1).length=16:=by rw[List.length_drop,hl]
 have hdr:∀c∈d.drop 1,aG c=true:=fun c hc=>hd c (List.mem_of_mem_drop hc)
 unfold FP
 generalize trimRightB 48 (d.drop 1)=t at *
 have ht:∀c∈t,aG c=true:=fun c hc=>hdr c (by rw[hj];exact List.mem_append_left _ hc)
 have lj:t.length+j=16:=by
  have:=congrArg List.length hj
  rw[lr,List.length_append,List.length_replicate]at this
  exact this.symm
 have hn:cy d=cy (d.take 1++t)*10^j:=by
  have e2:cy d=cy (d.take 1++t++List.replicate j 48):=by rw[List.append_assoc,<-hj,<-e]
  rw[e2,yC,rT,List.length_replicate];omega
 by_cases h0:t=[]
 ·rw[if_pos h0]
  subst h0
  have hj16:j=16:=by simpa using lj
  refine⟨by decide,by decide,by decide,?_⟩
  rw[hn,hj16,List.append_nil,yC]
  show (cy (d.take 1)*10+0)*10^16=cy (d.take 1)*10^16*10
  omega
 ·rw[if_neg h0]
  refine⟨h0,ht,by omega,?_⟩
  rw[hn,Nat.mul_assoc,<-Nat.pow_add,Nat.add_comm j,lj]
theorem nN{sg:List UInt8}{neg:Bool}(hsg:Sign sg neg)(q c:Nat)(n:Int)(h1:10^16<=q)(h2:q<10^17)(n1:-400<=n)(n2:n<=400)(hc:vQ (q*nP (n-16)) (o8 (n-16)) c):dc (im sg (fM q) n)=vU neg c:=by
 have hl:=jd 16 q h1 h2
 obtain⟨r1,r2,r3,r4⟩:=wh (fM q) hl (ax q)
 have hw:∀c∈(fM q).take 1,aG c=true:=fun c hc=>ax q c (List.mem_of_mem_take hc)
 have hne:(fM q).take 1≠[]:=fun h=>by
  have:=congrArg List.length h
  rw[List.length_take,hl]at this
  simp at this
 have lw:((fM q).take 1).length<=1:=by rw[List.length_take];omega
 rw[lb]at r4
 unfold im
 generalize FP (fM q)=r at *
 generalize (fM q).take 1=w at *
 have e:sg++w++[46]++r++[101]++js n=sg++(w++((46::r)++(101::js n))):=by simp
 have lw1:w.length+r.length<=60:=by omega
 obtain⟨v,hv,hp⟩:=nv hsg hw hne (Or.inr ⟨rfl,r1,r2⟩) (xJ n1 n2) lw1
 have hvc:v=c:=HB hv hc (Nat.pow_pos (by decide)) (rq _) (by
  have:cy (w++r)*10^16*(10^(n-(r.length:Int)).toNat*o8 (n-16))=q*10^r.length*(10^(n-(r.length:Int)).toNat*o8 (n-16)):=by rw[r4]
  have e1:q*10^r.length*(10^(n-(r.length:Int)).toNat*o8 (n-16))=q*nP (n-16)*10^(-(n-(r.length:Int))).toNat*10^16:=by
   unfold nP o8
   rw[Nat.mul_assoc q,Nat.mul_assoc q,Nat.mul_assoc q,<-Nat.pow_add,<-Nat.pow_add,<-Nat.pow_add,<-Nat.pow_add]
   congr 2;omega
  have e2:cy (w++r)*10^16*(10^(n-(r.length:Int)).toNat*o8 (n-16))=cy (w++r)*10^(n-(r.length:Int)).toNat*o8 (n-16)*10^16:=by
   generalize 10^(n-(r.length:Int)).toNat=a
   generalize 10^16=b
   ac_rfl
  rw[e1,e2]at this
  exact Nat.eq_of_mul_eq_mul_right (Nat.pow_pos (by decide)) this)
 rw[e,hp,hvc]
theorem A4(c:Nat)(hk:c / 2^52<2047):(nG c).1*U=gr c*(nG c).2:=by
 unfold nG
 by_cases h0:c / 2^52=0
 ·have h1:c<2^52:=by omega
  simp only[if_pos h0]
  rw[if_pos (by decide)]
  simp only
  rw[Nat.mod_eq_of_lt h1,gr,if_pos h1]
  rfl
 ·simp only[if_neg h0]
  have hq:2^52<=c%2^52+2^52/\c%2^52+2^52<2^53:=by omega
  have hg:gr c=(c%2^52+2^52)*2^(c / 2^52-1):=by rw[gr,if_neg (by omega)]
  obtain⟨k,hk2⟩:∃k,c / 2^52=k+1:=⟨c / 2^52-1,by omega⟩
  rw[hg,hk2,Nat.add_sub_cancel]
  generalize c%2^52+2^52=q
  have e:(-1074:Int)+(((k+1:Nat):Int)-1)=(k:Int)-1074:=by omega
  rw[e]
  by_cases h:(k:Int)-1074<0
  ·rw[if_pos h]
   simp only
   rw[show (-((k:Int)-1074)).toNat=1074-k by omega,Bz (k:=k) (by omega),<-Nat.mul_assoc,Lj]
  ·rw[if_neg h]
   simp only
   rw[show ((k:Int)-1074).toNat=k-1074 by omega,Nat.mul_one,Nat.mul_assoc,<-Ed (by omega)]
theorem wS{A B q:Nat}(hB:0<B)(hq:cI A B=q)(h1:10^16*B<=A)(h2:A<10^17*B):10^16<=q/\q<=10^17/\2*q*B<=2*A+B/\2*A<=2*q*B+B:=by
 have hu:=oD A B hB
 have hl:=ma A B hB
 rw[hq]at hu hl
 have e1:(2*q+1)*B=2*q*B+B:=by rw[Nat.add_mul,Nat.one_mul]
 rw[e1]at hu
 refine⟨?_,?_,by omega,by omega⟩
 ·rcases Nat.lt_or_ge q (10^16)with h|h
  ·exfalso
   have:(2*q+1)*B<=(2*10^16-1)*B:=Nat.mul_le_mul_right _ (by omega)
   have e2:(2*10^16-1)*B+B=2*(10^16*B):=by rw[<-Nat.succ_mul,<-Nat.mul_assoc]
   omega
  ·exact h
 ·rcases Nat.lt_or_ge (10^17) q with h|h
  ·exfalso
   have:2*(10^17+1)*B<=2*q*B:=Nat.mul_le_mul_right _ (by omega)
   have e2:2*(10^17+1)*B=2*(10^17*B)+2*B:=by rw[Nat.mul_assoc,Nat.add_mul,Nat.one_mul,Nat.mul_add]
   omega
  ·exact h
theorem KB(a b x s:Nat):a*(b*x)*s=a*(b*(x*s)):=by rw[Nat.mul_assoc,Nat.mul_assoc]
theorem KA(a x s:Nat):a*x*s=a*(x*s):=Nat.mul_assoc _ _ _
theorem KC(a x b s:Nat):a*x*(b*s)=a*(x*b*s):=by rw[Nat.mul_assoc,Nat.mul_assoc]
theorem A8{A B A' B' s s':Nat}(hB:0<B')(hs:0<s)(hs':0<s')(ha:A*s'=A'*s)(hb:B'*s=B*10*s')(h1:2*10^17*B<=2*A+B)(h2:A<10^17*B):cI A' B'=10^16:=by
 have hu:=oD A' B' hB
 have hl:=ma A' B' hB
 have e1:(2*cI A' B'+1)*B'=2*cI A' B'*B'+B':=by rw[Nat.add_mul,Nat.one_mul]
 rw[e1]at hu
 generalize cI A' B'=q at *
 have k1:10*(2*10^16*B')<=10*(2*A')+B':=by
  have:=Nat.mul_le_mul_right (10*s') h1
  have a1:2*10^17*B*(10*s')=10*(2*10^16*B')*s:=by
   rw[KB,hb,KC]
   generalize B*10*s'=z
   omega
  have a2:(2*A+B)*(10*s')=(10*(2*A')+B')*s:=by
   rw[Nat.add_mul,Nat.add_mul,KB,hb,KC,<-Nat.mul_assoc B,<-ha,Nat.mul_right_comm A 10 s']
   generalize B*10*s'=z
   generalize A*s'=w
   omega
  rw[a1,a2]at this
  exact Nat.le_of_mul_le_mul_right this hs
 have k2:A'<10^16*B':=by
  have:=Nat.mul_lt_mul_of_pos_right h2 hs'
  have a1:10^17*B*s'=10^16*B'*s:=by
   rw[KA,KA,hb,Nat.mul_right_comm B 10 s']
   generalize B*s'=z
   omega
  rw[a1,ha]at this
  exact Nat.lt_of_mul_lt_mul_right this
 refine Nat.le_antisymm ?_ ?_
 ·rcases Nat.lt_or_ge (10^16) q with h|h
  ·exfalso
   have:2*(10^16+1)*B'<=2*q*B':=Nat.mul_le_mul_right _ (by omega)
   have e2:2*(10^16+1)*B'=2*(10^16*B')+2*B':=by rw[Nat.mul_assoc,Nat.add_mul,Nat.one_mul,Nat.mul_add]
   omega
  ·exact h
 ·rcases Nat.lt_or_ge q (10^16)with h|h
  ·exfalso
   have:2*q*B'<=2*(10^16-1)*B':=Nat.mul_le_mul_right _ (by omega)
   have e2:2*(10^16-1)*B'+2*B'=2*10^16*B':=by rw[<-Nat.add_mul]
   omega
  ·exact h
theorem rY{sg:List UInt8}{neg:Bool}(hsg:Sign sg neg)(x y c:Nat)(hx0:0<x)(hy0:0<y)(hx:qP x)(hy:qP y)(hc:0<c)(hg:x*U=gr c*y):dc (vA sg x y)=vU neg c:=by
 obtain⟨n,hn,b1,b2,n1,n2⟩:=rL x y hx0 hy0 hx hy
 unfold vA
 simp only[hn]
 rw[lf x y n (n-16) 16 (by omega)]at b1
 rw[lf x y (n+1) (n-16) 17 (by omega)]at b2
 have c1:10^16*(y*nP (n-16))<=x*o8 (n-16):=by
  have:=of_decide_eq_false b1
  rw[Nat.mul_comm];omega
 have c2:x*o8 (n-16)<10^17*(y*nP (n-16)):=by
  have:=of_decide_eq_true b2
  rw[Nat.mul_comm (10^17)];exact this
 have hB:0<y*nP (n-16):=Nat.mul_pos hy0 (rp _)
 have hq:=nJ x y (n-16)
 obtain⟨q1,q2,q3,q4⟩:=wS hB hq.symm c1 c2
 have near:vQ (gu x y (n-16)*nP (n-16)) (o8 (n-16)) c:=qe hy0 (rq _) hc hg c1 q3 q4
 generalize hqq:gu x y (n-16)=q at *
 have ht:kU q=fM q:=by unfold kU;rw[Nat.mod_eq_of_lt (by omega)]
 rw[ht]
 by_cases h17:q<10^17
 ·rw[if_neg (by rw[jd 16 q q1 h17];decide)]
  exact nN hsg q c n q1 h17 (by omega) (by omega) near
 ·have hqe:q=10^17:=by omega
  rw[if_pos (by rw[jd 17 q (by omega) (by omega)];decide)]
  have sh:=zP (n+1-16) (n-16) 1 (by omega)
  have hnext:gu x y (n+1-16)=10^16:=by
   rw[nJ]
   refine A8 (A:=x*o8 (n-16)) (B:=y*nP (n-16)) (s:=o8 (n-16)) (s':=o8 (n+1-16)) (Nat.mul_pos hy0 (rp _)) (rq _) (rq _) (Nat.mul_right_comm _ _ _) ?_ ?_ c2
   ·rw[Nat.mul_assoc y,sh]
    generalize nP (n-16)=a
    generalize o8 (n+1-16)=b
    rw[Nat.pow_one,Nat.mul_assoc y a 10,Nat.mul_assoc y,Nat.mul_right_comm a 10 b,Nat.mul_comm 10 (a*b)]
   ·rw[hqe]at q3;exact q3
  have hnear:vQ (10^16*nP (n+1-16)) (o8 (n+1-16)) c:=by
   refine vw near (rq _) (rq _) ?_
   rw[hqe,Nat.mul_assoc (10^16) (nP (n+1-16)),sh]
   generalize nP (n-16)=a
   generalize o8 (n+1-16)=b
   rw[Nat.mul_assoc]
   generalize a*b=z
   omega
  rw[hnext,show kU (10^16)=fM (10^16)from rfl]
  exact nN hsg (10^16) c (n+1) (Nat.le_refl _) (by decide) (by omega) (by omega) hnear
theorem rU(b:Nat)(hb:b<2^64)(hk:b / 2^52%2048≠2047):dc (qC b)=(b,0):=by
 unfold qC
 rw[if_neg hk]
 have hc:b%2^63 / 2^52<2047:=by omega
 have hlt:b%2^63<2047*2^52:=by omega
 have hs:∀neg:Bool,neg=decide (2^63<=b)->vU neg (b%2^63)=(b,0):=by
  intro neg h
  rw[vU,if_pos hlt]
  congr 1
  unfold qD
  by_cases ht:2^63<=b
  ·rw[h,if_pos (by simp[ht]),(Cj (v:=b%2^63) (by omega)).2];omega
  ·rw[h,if_neg (by simp;omega)];omega
 obtain⟨sg,neg,hsg,hneg,hout⟩:∃sg neg,Sign sg neg/\neg=decide (2^63<=b)/\(if 2^63<=b then [45]else [])=sg:=by
  by_cases ht:2^63<=b
  ·exact⟨[45],true,Or.inr (Or.inr ⟨rfl,rfl⟩),by simp[ht],if_pos ht⟩
  ·exact⟨[],false,oh,by simp;omega,if_neg ht⟩
 simp only[hout]
 have h2:=hs neg hneg
 generalize b%2^63=c at *
 by_cases h0:c=0
 ·rw[if_pos h0]
  have e:sg++[48,46,48,101,48]=sg++([48]++([46,48]++(101::([]++fM 0)))):=by
   rw[show fM 0=[48]from rfl];rfl
  obtain⟨v,hv,hp⟩:=nv hsg (w:=[48]) (by decide) (by decide) (pt:=[46,48]) (p:=[48]) (Or.inr ⟨rfl,by decide,by decide⟩) (xt:=101::([]++fM 0)) (n:=0) (Or.inr ⟨101,[],false,0,Or.inl rfl,rfl,oh,by omega,by simp⟩) (by decide)
  have hv0:v=0:=HB hv (rS (x:=0) (y:=1) (v:=0) (by decide) (by rw[Nat.zero_mul];rfl)) (Nat.pow_pos (by decide)) (by decide) (by rw[show cy ([48]++[48])=0 from rfl];simp)
  rw[e,hp,hv0,<-h0];exact h2
 ·rw[if_neg h0]
  obtain⟨s1,s2,s3⟩:=yV c (by omega) hc
  rw[rY hsg (nG c).1 (nG c).2 c (yU c h0) s3 s1 s2 (by omega) (A4 c hc)]
  exact h2
theorem vz(b:Nat)(hb:b<2^64):(qC b).length<=1000:=by
 have put:∀(out:List UInt8) (q:Nat) (n:Int),out.length<=1->-1000000<n->n<1000000->(im out (kU q) n).length<=1000:=by
  intro out q n ho h1 h2
  have ht:=Gj q
  have hd:=jB h1 h2
  have hr:(FP (kU q)).length<=20:=by
   unfold FP
   split
   ·decide
   ·have:=D0 48 ((kU q).drop 1)
    rw[List.length_drop]at this
    omega
  unfold im
  simp only[List.length_append,List.length_take,List.length_singleton]
  omega
 unfold qC
 split
 ·decide
 ·rename_i hk
  have ho:(if 2^63<=b then [45] else([]:List UInt8)).length<=1:=by split<;>decide
  simp only
  split
  ·rw[List.length_append]
   have h5:([48,46,48,101,48]:List UInt8).length=5:=rfl
   omega
  ·rename_i h0
   obtain⟨s1,s2,s3⟩:=yV (b%2^63) (by omega) (by omega)
   obtain⟨n,hn,-,-,n1,n2⟩:=rL (nG (b%2^63)).1 (nG (b%2^63)).2 (yU _ h0) s3 s1 s2
   unfold vA
   simp only[hn]
   split
   ·exact put _ _ _ ho (by omega) (by omega)
   ·exact put _ _ _ ho (by omega) (by omega)
end Go.Dn.Dec
namespace Go.Dn.Dec
set_option linter.unusedVariables false
set_option linter.unusedSimpArgs false
theorem lu{α:Type}{l:List α}{f:α->List UInt8}{B:Nat}(h:∀x∈l,(f x).length<=B):(l.map f).flatten.length<=l.length*B:=by
 induction l with
 |nil=>simp
 |cons x l ih=>
  have h1:=h x (by simp)
  have h2:=ih fun y hy=>h y (by simp[hy])
  simp only[List.map_cons,List.flatten_cons,List.length_append,List.length_cons,Nat.add_mul,Nat.one_mul]
  omega
theorem sq{l:List (List UInt8)}{B:Nat}(h:∀x∈l,x.length<=B):(Lib.join l [44,32]).length<=l.length*(B+2):=by
 cases l with
 |nil=>simp[Lib.join_nil]
 |cons x r=>
  rw[Lib.join_cons]
  have h1:=h x (by simp)
  have h2:(Lib.joinTail [44,32] r).length<=r.length*(B+2):=by
   unfold Lib.joinTail
   refine lu fun y hy=>?_
   have:=h y (by simp[hy])
   simp only[List.length_append,List.length_cons,List.length_nil];omega
  rw[List.length_append,List.length_cons,Nat.add_mul,Nat.one_mul]
  omega
theorem u9(s:List UInt8):(pQ s).length=s.length+2:=by
 unfold pQ
 split<;>simp
theorem Ex{k n u:Int}{s:List UInt8}{d:Nat}(hn:-1000<=n/\n<=1000)(hu:0<=u/\u<18446744073709551616)(hs:s.length<=103):WC (d+1) (cD k n u s true []):=
 ⟨k,n,u,s,true,[],rfl,⟨by omega,by omega⟩,hu,by omega,by simp,.inr (.inr rfl),by simp⟩
theorem BF{k n u:Int}{s:List UInt8}(hn:-1000<=n/\n<=1000)(hu:0<=u/\u<18446744073709551616)(hs:s.length<=103):(fC (D.g [D.i .i64 k,D.i .i64 n,D.i .u64 u,D.s s,D.l true []])).length<=1010:=by
 simp only[fC]
 split
 ·have:=jB (n:=n) (by omega) (by omega);omega
 ·split
  ·have:=vz u.toNat (by omega);omega
  ·split
   ·rw[u9];omega
   ·split
    ·omega
    ·split<;>simp[jL,cG,Lib.join_nil]
theorem Hr{x:D}{d:Nat}(h:vP x):WC (d+1) x:=by
 obtain⟨k,n,u,s,rfl,_,_,h1,h2,h3,h4,h5⟩:=h
 exact Ex ⟨h1,h2⟩ ⟨h3,h4⟩ h5
theorem Hq{x:D}(h:vP x):Kn x:=by
 obtain⟨k,n,u,s,rfl,h0,_⟩:=h
 show k≠0
 omega
theorem E2{x:D}(h:vP x):(fC x).length<=1010:=by
 obtain⟨k,n,u,s,rfl,_,_,h1,h2,h3,h4,h5⟩:=h
 exact BF ⟨h1,h2⟩ ⟨h3,h4⟩ h5
theorem sC{x:D}(h:dj x):WF x:=by
 obtain⟨h,id,r,t,nm,hi,k,n,u,s,rfl,a1,a2,a3,a4,a5,a6,a7,a8,a9,b1,b2,b3,b4,b5⟩:=h
 exact⟨h,id,r,t,nm,hi,k,n,u,s,true,[],rfl,⟨by omega,by omega⟩,by omega,by omega,fun h=>by have:=a7 h;omega,Ex ⟨b1,b2⟩ ⟨b3,b4⟩ b5⟩
theorem sB{x:D}(h:dj x):(Du x).length<=1600:=by
 obtain⟨h,id,r,t,nm,hi,k,n,u,s,rfl,a1,a2,a3,a4,a5,a6,a7,a8,a9,b1,b2,b3,b4,b5⟩:=h
 have h1:=jB (n:=id) (by omega) (by omega)
 have h2:=BF (k:=k) ⟨b1,b2⟩ ⟨b3,b4⟩ b5
 simp only[Du,List.length_append]
 have e1:(if h=true then js id++[58,32]else []).length<=10:=by split<;>simp;omega
 have e2:(if r=1 then [114,101,113,117,105,114,101,100,32]else if r=2 then [111,112,116,105,111,110,97,108,32]else []:List UInt8).length<=9:=by
  split
  ·simp
  ·split<;>simp
 have e3:(if hi=true then [32,61,32]++fC (.g [.i .i64 k,.i .i64 n,.i .u64 u,.s s,.l true []])else []:List UInt8).length<=1013:=by
  split
  ·simp only[List.length_append,List.length_cons,List.length_nil];omega
  ·simp
 simp only[List.length_append,List.length_cons,List.length_nil]at *
 omega
theorem Dk{x:D}(h:ka x):WM x:=by
 obtain⟨nm,h,n,rfl,a1,a2,a3⟩:=h
 exact⟨nm,h,n,rfl,by omega,by omega,by omega⟩
theorem yv{x:D}(h:ka x):(B6 x).length<=20:=by
 obtain⟨nm,h,n,rfl,a1,a2,a3⟩:=h
 have h1:=jB (n:=n) (by omega) (by omega)
 have e1:(if h=true then [32,61,32]++js n else []:List UInt8).length<=11:=by split<;>simp;omega
 simp only[B6,List.length_append,List.length_cons,List.length_nil]at *
 omega
theorem yP{l:List D}{B:Nat}(h:∀x∈l,dj x)(hl:l.length<=B):(jM l).length<=B*1602:=by
 have:=sq (l:=l.map Du) (B:=1600) fun y hy=>by
  obtain⟨x,hx,rfl⟩:=List.mem_map.1 hy
  exact sB (h x hx)
 rw[List.length_map]at this
 exact Nat.le_trans this (Nat.mul_le_mul_right _ hl)
theorem uV{x:D}(h:lU x):J2 x:=by
 obtain⟨nm,ow,ret,ab,al,tb,tl,rfl,a1,a2,a3,a4,a5,a6⟩:=h
 exact⟨nm,ow,ret,ab,al,tb,tl,rfl,by omega,by omega,by omega,by omega,fun y hy=>sC (a5 y hy),fun y hy=>sC (a6 y hy)⟩
theorem yw{x:D}(h:lU x):(mo x).length<=6000:=by
 obtain⟨nm,ow,ret,ab,al,tb,tl,rfl,a1,a2,a3,a4,a5,a6⟩:=h
 have h1:=yP a5 a3
 have h2:=yP a6 a4
 have e1:(if ow=true then [111,110,101,119,97,121,32]else []:List UInt8).length<=7:=by split<;>simp
 have e2:(if tl=[]then []else [32,116,104,114,111,119,115,32,40]++jM tl++[41]:List UInt8).length<=1700:=by
  split
  ·simp
  ·simp only[List.length_append,List.length_cons,List.length_nil];omega
 simp only[mo,List.length_append,List.length_cons,List.length_nil]at *
 omega
theorem Jq{x:D}(h:Cy x):WD x:=by
 obtain⟨kd,nm,ty,ck,cn,cu,cs,cb,cl,fb,fl,mb,ml,ex,tb,tl,rfl,a1,a2,a3,a4,a5,a6,a7,a8,a9,b1,b2,b3,b4,b5,b6,b7,b8,b9,c1,c2,c3,c4,c5,c6⟩:=h
 exact⟨kd,nm,ty,ck,cn,cu,cs,cb,cl,fb,fl,mb,ml,ex,tb,tl,rfl,a1,a2,by omega,by omega,fun h=>by have:=a7 h;omega,⟨ck,cn,cu,cs,cb,cl,rfl,⟨by omega,by omega⟩,⟨b1,b2⟩,by omega,by omega,by omega,fun y hy=>⟨Hr (b5 y hy),Hq (b5 y hy)⟩⟩,
  by omega,fun y hy=>sC (b7 y hy),by omega,fun y hy=>Dk (b9 y hy),by omega,by omega,fun y hy=>uV (c3 y hy),c4,c5,c6⟩
theorem Fg{x:D}(h:Cy x):(Dt x).length<=20000:=by
 obtain⟨kd,nm,ty,ck,cn,cu,cs,cb,cl,fb,fl,mb,ml,ex,tb,tl,rfl,a1,a2,a3,a4,a5,a6,a7,a8,a9,b1,b2,b3,b4,b5,b6,b7,b8,b9,c1,c2,c3,c4,c5,c6⟩:=h
 have hf:(fl.map Dw).flatten.length<=5*1604:=Nat.le_trans (lu (B:=1604) fun y hy=>by
  have:=sB (b7 y hy)
  simp only[Dw,List.length_append,List.length_cons,List.length_nil];omega) (Nat.mul_le_mul_right _ b6)
 have hm:(ml.map B6).flatten.length<=3*20:=Nat.le_trans (lu (B:=20) fun y hy=>yv (b9 y hy)) (Nat.mul_le_mul_right _ b8)
 have ht:(tl.map mo).flatten.length<=3*6000:=Nat.le_trans (lu (B:=6000) fun y hy=>yw (c3 y hy)) (Nat.mul_le_mul_right _ c2)
 have hcs:∀y∈jL cl,y.length<=1010:=by
  intro y hy
  have e:∀l:List D,jL l=l.map fC:=by
   intro l
   induction l with
   |nil=>simp only[jL,List.map_nil]
   |cons a l ih=>simp only[jL,List.map_cons,ih]
  rw[e]at hy
  obtain⟨z,hz,rfl⟩:=List.mem_map.1 hy
  exact E2 (b5 z hz)
 have hc:(fC (D.g [D.i .i64 ck,D.i .i64 cn,D.i .u64 cu,D.s cs,D.l cb cl])).length<=5000:=by
  have e:∀l:List D,jL l=l.map fC:=by
   intro l
   induction l with
   |nil=>simp only[jL,List.map_nil]
   |cons a l ih=>simp only[jL,List.map_cons,ih]
  have hl:(jL cl).length<=2:=by rw[e,List.length_map];exact b4
  simp only[fC]
  split
  ·have:=jB (n:=cn) (by omega) (by omega);omega
  ·split
   ·have:=vz cu.toNat (by omega);omega
   ·split
    ·rw[u9];omega
    ·split
     ·omega
     ·split
      ·have:=sq hcs
       have h2:=Nat.mul_le_mul_right (1010+2) hl
       simp only[List.length_append,List.length_cons,List.length_nil];omega
      ·have hp:∀y∈cG (jL cl),y.length<=2022:=by
        intro y hy
        have:∀(l:List (List UInt8)),(∀y∈l,y.length<=1010)->∀y∈cG l,y.length<=2022:=by
         intro l
         induction l using cG.induct with
         |case1 a b r ih=>
          intro h y hy
          simp only[cG,List.mem_cons]at hy
          rcases hy with rfl|hy
          ·have h1:=h a (by simp)
           have h2:=h b (by simp)
           simp only[List.length_append,List.length_cons,List.length_nil];omega
          ·exact ih (fun z hz=>h z (by simp[hz])) y hy
         |case2 l hne=>
          intro h y hy
          unfold cG at hy
          split at hy
          ·exact(hne _ _ _ rfl).elim
          ·simp at hy
        exact this _ hcs y hy
       have hpl:(cG (jL cl)).length<=1:=by
        rcases e2:jL cl with _|⟨a,_|⟨b,_|⟨c,r⟩⟩⟩
        ·simp[cG]
        ·simp[cG]
        ·simp[cG]
        ·rw[e2]at hl;simp at hl
       have:=sq hp
       have h2:=Nat.mul_le_mul_right (2022+2) hpl
       simp only[List.length_append,List.length_cons,List.length_nil];omega
 have e1:(if ex=[]then []else [32,101,120,116,101,110,100,115,32]++ex:List UInt8).length<=10:=by
  split
  ·simp
  ·simp only[List.length_append,List.length_cons,List.length_nil];omega
 have e2:(J7 kd).length<=10:=by
  unfold J7
  split
  ·simp
  ·split<;>simp
 simp only[Dt]
 split
 ·simp only[List.length_append,List.length_cons,List.length_nil]at *;omega
 ·split
  ·simp only[List.length_append,List.length_cons,List.length_nil]at *;omega
  ·split
   ·simp only[List.length_append,List.length_cons,List.length_nil]at *;omega
   ·split
    ·simp only[List.length_append,List.length_cons,List.length_nil]at *;omega
    ·simp only[List.length_append,List.length_cons,List.length_nil]at *;omega
theorem Hw{x:D}(h:Bw x):Ma x:=by
 obtain⟨il,sl,b,l,rfl,h1,h2,h3,h4⟩:=h
 refine⟨true,il,true,sl,b,l,rfl,?_,?_,by omega,?_,?_,fun y hy=>Jq (h4 y hy)⟩
 ·rcases h1 with⟨rfl,rfl⟩|⟨rfl,rfl⟩<;>simp
 ·rcases h1 with⟨rfl,rfl⟩|⟨rfl,rfl⟩<;>simp
 ·rcases h1 with⟨rfl,rfl⟩|⟨rfl,rfl⟩
  ·simp
  ·intro y hy
   simp only[List.mem_singleton]at hy;subst hy
   exact⟨_,rfl,by simp,by decide⟩
 ·rcases h1 with⟨rfl,rfl⟩|⟨rfl,rfl⟩
  ·simp
  ·intro y hy
   simp only[List.mem_singleton]at hy;subst hy
   exact⟨_,_,rfl,by simp,by simp⟩
theorem Dg{x:D}(h:Bw x):(Dv x).length<=200000:=by
 obtain⟨il,sl,b,l,rfl,h1,h2,h3,h4⟩:=h
 have hd:(l.map Dt).flatten.length<=9*20000:=Nat.le_trans (lu (B:=20000) fun y hy=>Fg (h4 y hy)) (Nat.mul_le_mul_right _ h3)
 simp only[Dv,List.length_append]
 rcases h1 with⟨rfl,rfl⟩|⟨rfl,rfl⟩
 ·simp only[List.map_nil,List.flatten_nil,List.length_nil];omega
 ·simp only[List.map_cons,List.map_nil,List.flatten_cons,List.flatten_nil,HP,FK,List.length_append,List.length_cons,List.length_nil];omega
end Go.Dn.Dec
namespace Go.Dn.Dec
open Go.Proofs
set_option linter.unusedVariables false
set_option linter.unusedSimpArgs false
noncomputable abbrev RY(t:Task):Option Out:=rk Tryz.prog bn t
theorem uo{k:Nat}{g:List V->List Ob->Option Out}(h:bn.ext k=some g)(args:List V)(S:List Ob):RY (Task.call k args S)=g args S:=by
 unfold RY
 rw[y6]
 unfold mI
 simp only[h]
 rw[bJ]
 cases g args S with
 |none=>rfl
 |some o=>rfl
theorem zX{f:Task->Option Out}{l:List D}{i:Nat}{x:D}{w:Nat}(h:l[i]?=some x)(hw:x.width=w){K:D->Tr}:
  aC f (ob (bh l (i:Int)) fun d=>aM (d.width==w) (ob l[((i:Int)).toNat]? fun d1=>aM (decide (w<=d1.width)) (K d1)))=aC f (K x):=by
 subst hw
 rw[bp,aJ h,beq_self_eq_true,ba,Int.toNat_natCast,aJ h,aH (Nat.le_refl _)]
theorem kD:∀l:List D,jL l=l.map fC
 | []=>by simp only[jL,List.map_nil]
 |a::l=>by simp only[jL,List.map_cons,kD l]
theorem EV{l:List (List UInt8)}{x:List UInt8}(h:x∈l):x.length<=l.flatten.length:=by
 induction l with
 |nil=>simp at h
 |cons a l ih=>
  rw[List.flatten_cons,List.length_append]
  simp only[List.mem_cons]at h
  rcases h with rfl|h
  ·omega
  ·have:=ih h;omega
theorem sr{l:List (List UInt8)}{x sep:List UInt8}(h:x∈l):x.length<=(Lib.join l sep).length:=by
 cases l with
 |nil=>simp at h
 |cons a l=>
  rw[Lib.join_cons,List.length_append]
  simp only[List.mem_cons]at h
  rcases h with rfl|h
  ·omega
  ·have:(sep++x).length<=(Lib.joinTail sep l).length:=EV (List.mem_map.2 ⟨x,h,rfl⟩)
   rw[List.length_append]at this;omega
theorem uY{B:Nat}:∀{l:List (List UInt8)},l.length%2=0->(∀y∈cG l,y.length<=B)->∀x∈l,x.length<=B
 | [],_,_,x,hx=>by simp at hx
 | [a],h,_,_,_=>by simp at h
 |a::b::r,h,hp,x,hx=>by
  have h0:=hp (a++[58,32]++b) (by simp[cG])
  simp only[List.length_append]at h0
  simp only[List.mem_cons]at hx
  rcases hx with rfl|rfl|hx
  ·omega
  ·omega
  ·exact uY (l:=r) (by simp only[List.length_cons]at h;omega) (fun y hy=>hp y (by simp[cG,hy])) x hx
theorem FF{k n u:Int}{s:List UInt8}{b:Bool}{l:List D}(hk:k≠0)(hp:k=0\/(1<=k/\k<=5)\/l.length%2=0)(h5:¬(k=1\/k=2\/k=3\/k=4))(hl:(fC (cD k n u s b l)).length<=900000):∀y∈l,(fC y).length<=900000:=by
 intro y hy
 simp only[cD,fC]at hl
 rw[if_neg (by omega),if_neg (by omega),if_neg (by omega),if_neg (by omega)]at hl
 have hm:fC y∈jL l:=by rw[kD];exact List.mem_map.2 ⟨y,hy,rfl⟩
 split at hl
 ·have:=sr (sep:=[44,32]) hm
  simp only[List.length_append]at hl;omega
 ·rename_i h
  refine uY (l:=jL l) (B:=900000) (by rw[kD,List.length_map];omega) (fun z hz=>?_) _ hm
  have:=sr (sep:=[44,32]) hz
  simp only[List.length_append]at hl;omega
theorem tn{d:Nat}{x:D}(h:WC d x):x.width=5:=by
 cases d with
 |zero=>exact h.elim
 |succ d=>obtain⟨_,_,_,_,_,_,rfl,_⟩:=h;rfl
def Eb(k d:Nat):Prop:=∀x,WC d x->Kn x->(fC x).length<=900000->RY (Task.call k [V.d x] [])=some (.d (.s (fC x)),[])
theorem JP(n:Int)(h:Kc n):RY (Task.call 47 [V.d (D.i IntKind.i64 n)] [])=some (.d (.s (js n)),[]):=by
 rw[uo (g:=oY) rfl]
 simp only[oY,if_pos (show -9223372036854775808<=n/\n<=9223372036854775807 from⟨h.1,h.2⟩)]
theorem I3(n:Int)(h:L9 n):RY (Task.call 48 [V.d (D.i IntKind.u64 n)] [])=some (.d (.s (qC n.toNat)),[]):=by
 rw[uo (g:=lO) rfl]
 simp only[lO,if_pos (show 0<=n/\n<18446744073709551616 from⟨h.1,h.2⟩)]
end Go.Dn.Dec
namespace Go.Dn.Dec
open Go.Proofs
set_option linter.unusedVariables false
set_option linter.unusedSimpArgs false
theorem pK(p:List (List UInt8))(x sep:List UInt8)(h:p≠[]):Lib.join (p++[x]) sep=Lib.join p sep++sep++x:=by
 cases p with
 |nil=>exact absurd rfl h
 |cons a p=>
  rw[List.cons_append,Lib.join_cons,Lib.join_cons]
  simp[Lib.joinTail,List.append_assoc]
theorem lC(p r:List (List UInt8))(sep:List UInt8):(Lib.join p sep).length<=(Lib.join (p++r) sep).length:=by
 cases p with
 |nil=>rw[Lib.join_nil];exact Nat.zero_le _
 |cons a p=>
  rw[List.cons_append,Lib.join_cons,Lib.join_cons]
  simp only[Lib.joinTail,List.map_append,List.flatten_append,List.length_append]
  omega
abbrev cO(k n u:Int)(s:List UInt8)(b:Bool)(l:List D):Ob:=Ob.cells [V.d (D.i IntKind.i64 k),V.d (D.i IntKind.i64 n),V.d (D.i IntKind.u64 u),V.d (D.s s),V.d (D.l b l)] []
theorem sT(k n u:Int)(s:List UInt8)(b:Bool)(l:List D)(hs:s.length<=2000):∀(r p:List UInt8),p++r=s->p.contains 34=false->
  RY (Task.at_ 22 0 [false,true,false,false,true,true,true,true,true,false,true,false,true] (sv 100 [(1,V.p 0 0),(3,V.d (D.i IntKind.i64 (p.length:Int)))]) [] [cO k n u s b l])=some (.d (.s (pQ s)),[])
 | [],p,e,hp=>by
  rw[List.append_nil]at e
  subst e
  rw[RY,lS,bc (by omega),aH (by omega),aH (by simp;omega)]
  simp only[pQ,hp,Bool.false_eq_true,if_false];rfl
 |c::r,p,e,hp=>by
  have hlen:s.length=p.length+(r.length+1):=by rw[<-e];simp
  have w1:IntKind.i64.wrap ((p.length:Int)+1)=((p.length+1:Nat):Int):=by rw[wrap_i64]<;>omega
  have g:bh s (p.length:Int)=some c:=by rw[bp,<-e];simp
  by_cases hc:c=34
  ·rw[RY,lS,bf (by omega),aJ g,cm (by rw[hc];rfl),aH (by omega),aH (by simp;omega)]
   have:s.contains 34=true:=by rw[<-e,hc];simp
   simp only[pQ,this,if_true];rfl
  ·have h34:((c.toNat:Int))≠34:=fun h=>hc (UInt8.toNat_inj.1 (by simp;omega))
   rw[RY,lS,bf (by omega),aJ g,bO h34,w1]
   have ih:=sT k n u s b l hs r (p++[c]) (by rw[<-e];simp) (by
    simp at hp⊢
    exact⟨hp,fun h=>hc h.symm⟩)
   rw[show (p++[c]).length=p.length+1 by simp]at ih
   exact bB ih
theorem sP{d:Nat}(hC:Eb 22 d)(k n u:Int)(s:List UInt8)(b:Bool)(l:List D)(hl:l.length<=100)(h:∀y∈l,WC d y/\Kn y/\(fC y).length<=900000)(hj:(Lib.join (l.map fC) [44,32]).length<=900000):∀(r p:List D),p++r=l->
  RY (Task.at_ 22 0 [false,true,false,true,false,true,true,true,true,true,true,true,true,true,false,true,false,true] (sv 100 [(1,V.p 0 0),(4,V.d (D.s ([91]++Lib.join (p.map fC) [44,32]))),(5,V.d (D.i IntKind.i64 (p.length:Int)))]) [] [cO k n u s b l])=some (.d (.s ([91]++Lib.join (l.map fC) [44,32]++[93])),[])
 | [],p,e=>by
  rw[List.append_nil]at e
  subst e
  rw[RY,pb,bc (by omega),aH (by simp;omega)];rfl
 |x::r,p,e=>by
  have hlen:l.length=p.length+(r.length+1):=by rw[<-e];simp
  have w1:IntKind.i64.wrap ((p.length:Int)+1)=((p.length+1:Nat):Int):=by rw[wrap_i64]<;>omega
  obtain⟨h1,h2,h3⟩:=h x (by rw[<-e];simp)
  have hc:=hC x h1 h2 h3
  have g:l[p.length]?=some x:=by rw[<-e];simp
  have hpre:=lC ((p++[x]).map fC) (r.map fC) [44,32]
  rw[<-List.map_append,show (p++[x])++r=l by rw[<-e];simp]at hpre
  have hpre0:=lC (p.map fC) ((x::r).map fC) [44,32]
  rw[<-List.map_append,e]at hpre0
  have ih:=sP hC k n u s b l hl h hj r (p++[x]) (by rw[<-e];simp)
  rw[show (p++[x]).length=p.length+1 by simp]at ih
  have step:∀acc:List UInt8,acc.length<=1000000->acc++fC x=[91]++Lib.join ((p++[x]).map fC) [44,32]->
    RY (Task.at_ 22 0 [true,false,false,true,false,false,true,false,true,false,true,true,true,true,true,true,true,true,true,false,true,false,true] (sv 100 [(1,V.p 0 0),(4,V.d (D.s acc)),(5,V.d (D.i IntKind.i64 (p.length:Int)))]) [] [cO k n u s b l])=some (.d (.s ([91]++Lib.join (l.map fC) [44,32]++[93])),[]):=by
   intro acc ha hacc
   rw[RY,tq]
   refine(zX g (tn h1)).trans ?_
   cases d with
   |zero=>exact h1.elim
   |succ d=>
    obtain⟨k',n',u',s',bb,l',rfl,_⟩:=h1
    refine(iZ hc).trans ?_
    rw[aH (by omega),hacc,w1]
    exact bB ih
  rw[RY,pb,bf (by omega)]
  by_cases hp:p=[]
  ·subst hp
   rw[bc (by simp)]
   refine bB (step _ (by simp[Lib.join_nil]) (by simp[Lib.join_one,Lib.join_nil]))
  ·have:0<p.length:=List.length_pos_iff.2 hp
   rw[bf (by omega),aH (by simp;omega)]
   refine bB (step _ (by simp;omega) ?_)
   rw[List.map_append,List.map_singleton,pK _ _ _ (by simpa using hp)]
   simp[List.append_assoc]
theorem vg{d:Nat}(hC:Eb 22 d)(k n u:Int)(s:List UInt8)(b:Bool)(l:List D)(hl:l.length<=100)(h:∀y∈l,WC d y/\Kn y/\(fC y).length<=900000)(hj:(Lib.join (cG (l.map fC)) [44,32]).length<=900000):∀(r p:List D) (o:List (List UInt8)),p++r=l->o++cG (r.map fC)=cG (l.map fC)->o.length*2=p.length->
  RY (Task.at_ 22 0 [false,true,false,true,true,true] (sv 100 [(1,V.p 0 0),(6,V.d (D.s ([123]++Lib.join o [44,32]))),(7,V.d (D.i IntKind.i64 (p.length:Int)))]) [] [cO k n u s b l])=some (.d (.s ([123]++Lib.join (cG (l.map fC)) [44,32]++[125])),[])
 | [],p,o,e,ho,hop=>by
  have hlen:l.length=p.length:=by rw[<-e];simp
  have w1:IntKind.i64.wrap ((p.length:Int)+1)=((p.length+1:Nat):Int):=by rw[wrap_i64]<;>omega
  have ho':o=cG (l.map fC):=by rw[<-ho];simp[cG]
  rw[RY,tt,w1,bc (by omega),ho',aH (by simp;omega)];rfl
 | [x],p,o,e,ho,hop=>by
  have hlen:l.length=p.length+1:=by rw[<-e];simp
  have w1:IntKind.i64.wrap ((p.length:Int)+1)=((p.length+1:Nat):Int):=by rw[wrap_i64]<;>omega
  have ho':o=cG (l.map fC):=by rw[<-ho];simp[cG]
  rw[RY,tt,w1,bc (by omega),ho',aH (by simp;omega)];rfl
 |x::y::r,p,o,e,ho,hop=>by
  have hlen:l.length=p.length+(r.length+2):=by rw[<-e];simp
  have w1:IntKind.i64.wrap ((p.length:Int)+1)=((p.length+1:Nat):Int):=by rw[wrap_i64]<;>omega
  have w2:IntKind.i64.wrap ((p.length:Int)+2)=((p.length+2:Nat):Int):=by rw[wrap_i64]<;>omega
  obtain⟨h1,h2,h3⟩:=h x (by rw[<-e];simp)
  obtain⟨i1,i2,i3⟩:=h y (by rw[<-e];simp)
  have hc:=hC x h1 h2 h3
  have hd:=hC y i1 i2 i3
  have g1:l[p.length]?=some x:=by rw[<-e];simp
  have g2:l[p.length+1]?=some y:=by rw[<-e];simp
  have ho2:(o++[fC x++[58,32]++fC y])++cG (r.map fC)=cG (l.map fC):=by rw[<-ho];simp[cG]
  have hpre:=lC (o++[fC x++[58,32]++fC y]) (cG (r.map fC)) [44,32]
  rw[ho2]at hpre
  have hpre0:=lC o (cG ((x::y::r).map fC)) [44,32]
  rw[ho]at hpre0
  have ih:=vg hC k n u s b l hl h hj r (p++[x,y]) (o++[fC x++[58,32]++fC y]) (by rw[<-e];simp) ho2 (by simp;omega)
  rw[show (p++[x,y]).length=p.length+2 by simp]at ih
  have step:∀acc:List UInt8,acc.length<=1000000->acc++fC x++[58,32]++fC y=[123]++Lib.join (o++[fC x++[58,32]++fC y]) [44,32]->
    RY (Task.at_ 22 0 [true,false,false,true,false,false,true,false,true,true,true] (sv 100 [(1,V.p 0 0),(6,V.d (D.s acc)),(7,V.d (D.i IntKind.i64 (p.length:Int)))]) [] [cO k n u s b l])=some (.d (.s ([123]++Lib.join (cG (l.map fC)) [44,32]++[125])),[]):=by
   intro acc ha hacc
   rw[RY,Bt,w1,w2]
   refine(zX g1 (tn h1)).trans ?_
   cases d with
   |zero=>exact h1.elim
   |succ d=>
    obtain⟨k',n',u',s',bb,l',rfl,_⟩:=h1
    refine(iZ hc).trans ?_
    rw[aH (by omega),aH (by simp;omega)]
    refine(zX g2 (tn i1)).trans ?_
    obtain⟨k2,n2,u2,s2,bb2,l2,rfl,_⟩:=i1
    refine(iZ hd).trans ?_
    rw[aH (by simp;omega),hacc]
    exact bB ih
  rw[RY,tt,w1,bf (by omega)]
  by_cases hp:o=[]
  ·subst hp
   have:p.length=0:=by simpa using hop.symm
   rw[bc (by omega)]
   refine bB (step _ (by simp[Lib.join_nil]) (by simp[Lib.join_one,Lib.join_nil,List.append_assoc]))
  ·have:0<o.length:=List.length_pos_iff.2 hp
   rw[bf (by omega),aH (by simp;omega)]
   refine bB (step _ (by simp;omega) ?_)
   rw[pK _ _ _ hp]
   simp[List.append_assoc]
theorem oM:∀d,Eb 22 d
 |0=>fun x h=>h.elim
 |d+1=>fun x h hk hl=>by
  obtain⟨k,n,u,s,b,l,rfl,h1,h2,h3,h4,h5,h6⟩:=h
  have hk:k≠0:=hk
  have hle:=FF hk h5 (l:=l) (n:=n) (u:=u) (s:=s) (b:=b)
  rw[RY,MC]
  by_cases e1:k=1
  ·rw[cm e1,iZ (JP n h1)]
   simp only[fC,if_pos e1];rfl
  by_cases e2:k=2
  ·rw[bO e1,cm e2,iZ (I3 u h2)]
   simp only[fC,if_neg e1,if_pos e2];rfl
  by_cases e3:k=3
  ·rw[bO e1,bO e2,cm e3]
   simp only[fC,if_neg e1,if_neg e2,if_pos e3]
   exact bB (sT k n u s b l h3 s [] rfl rfl)
  by_cases e4:k=4
  ·rw[bO e1,bO e2,bO e3,cm e4]
   simp only[fC,if_neg e1,if_neg e2,if_neg e3,if_pos e4];rfl
  have hle:=hle (by omega) hl
  have hy:∀y∈l,WC d y/\Kn y/\(fC y).length<=900000:=fun y hy=>⟨(h6 y hy).1,(h6 y hy).2,hle y hy⟩
  by_cases e5:k=5
  ·have hj:(Lib.join (l.map fC) [44,32]).length<=900000:=by
    simp only[cD,fC,if_neg e1,if_neg e2,if_neg e3,if_neg e4,if_pos e5,List.length_append,kD]at hl;omega
   rw[bO e1,bO e2,bO e3,bO e4,cm e5]
   simp only[fC,if_neg e1,if_neg e2,if_neg e3,if_neg e4,if_pos e5,kD]
   exact bB (sP (oM d) k n u s b l h4 hy hj l [] rfl)
  ·have hj:(Lib.join (cG (l.map fC)) [44,32]).length<=900000:=by
    simp only[cD,fC,if_neg e1,if_neg e2,if_neg e3,if_neg e4,if_neg e5,List.length_append,kD]at hl;omega
   rw[bO e1,bO e2,bO e3,bO e4,bO e5]
   simp only[fC,if_neg e1,if_neg e2,if_neg e3,if_neg e4,if_neg e5,kD]
   exact bB (vg (oM d) k n u s b l h4 hy hj l [] [] rfl rfl rfl)
end Go.Dn.Dec
