/- Numbers as rows of words, the least ahead. -/
import Derived.Test.YtbjllhjbhdjfjaaGreatDoorP4
import Derived.Test.YtbjllhjbhdjfjaaGreatDoorProg
import Derived.KernelRfl
import Derived.Shelf.Strings.Trim
import Derived.Shelf.Small.Bits
import Derived.Shelf.Small.Strs
import Derived.Shelf.Strconv.Itoa0
import Derived.Shelf.Strconv.Itoa1
import Derived.Shelf.LaysM
import Derived.Shelf.Strconv.Itoa2
import Derived.Shelf.Strconv.Itoa3
import Derived.Shelf.Strings.Search1
import Derived.Shelf.Strings.Search2
import Derived.Shelf.Strings.Search3
import Derived.Shelf.Strings.Prefix
import Derived.Shelf.Unicode.DecodeAny
import Derived.WalkKit
import Derived.WalkSpells
import Derived.WalkLawsBesides
import Derived.Lib.AppendIntMem
import Derived.Shelf.Strings.SlTrimAscii
import Derived.Test.YtbjllhjbhdjfjaaGreatDoorRows
import Derived.Lib.LaidTab
import Derived.Stop.LaidErr
import Derived.Shelf.Vars
import Derived.Handed
import Derived.ProofKit
import Derived.OpenShut
import Derived.LaidMore
import Derived.Lay
set_option linter.unusedVariables false
set_option linter.unusedSimpArgs false
set_option linter.unusedSectionVars false
namespace Go.Dn.Dec
def W:Nat:=4294967296
theorem ft:0<W:=by decide
def aN:List Int->Nat
 | []=>0
 |z::zs=>z.toNat+W*aN zs
def aK(n:Nat):List Int:=
 if n=0 then [] else(n%W:Nat)::aK (n / W)
termination_by n
decreasing_by exact Nat.div_lt_self (by omega) (by decide)
theorem bF:aK 0=[]:=by rw[aK];simp
theorem dA{n:Nat}(h:n≠0):aK n=((n%W:Nat):Int)::aK (n / W):=by rw[aK,if_neg h]
def cP(a:List Int):Prop:=∀z∈a,0<=z/\z<4294967296
theorem cP.cons{z:Int}{a:List Int}:cP (z::a)↔(0<=z/\z<4294967296)/\cP a:=by simp[cP]
theorem cP.nil:cP []:=by simp[cP]
theorem cP.take{a:List Int}(h:cP a)(n:Nat):cP (a.take n):=fun z hz=>h z (List.mem_of_mem_take hz)
theorem cP.append{a b:List Int}(h:cP a)(k:cP b):cP (a++b):=fun z hz=>(List.mem_append.1 hz).elim (h z) (k z)
theorem cd(n:Nat):cP (aK n):=by
 induction n using Nat.strongRecOn with
 |ind n ih=>
  by_cases h:n=0
  ·subst h;rw[bF];exact cP.nil
  ·rw[dA h]
   refine cP.cons.2 ⟨?_,ih _ (Nat.div_lt_self (by omega) (by decide))⟩
   have:=Nat.mod_lt n ft
   unfold W at *;omega
theorem bY(n:Nat):aN (aK n)=n:=by
 induction n using Nat.strongRecOn with
 |ind n ih=>
  by_cases h:n=0
  ·subst h;rw[bF];rfl
  ·rw[dA h,aN,ih _ (Nat.div_lt_self (by omega) (by decide))]
   have:=Nat.mod_add_div n W
   simp only[Int.toNat_natCast];omega
theorem cU(a b:List Int):aN (a++b)=aN a+W^a.length*aN b:=by
 induction a with
 |nil=>simp[aN]
 |cons z a ih=>
  rw[List.cons_append,aN,aN,ih,List.length_cons,Nat.pow_succ,Nat.mul_add,Nat.mul_assoc,Nat.mul_left_comm W]
  rw[Nat.add_assoc]
theorem lQ{a:List Int}(h:cP a):aN a<W^a.length:=by
 induction a with
 |nil=>simp[aN]
 |cons z a ih=>
  obtain⟨hz,ha⟩:=cP.cons.1 h
  have:=ih ha
  rw[aN,List.length_cons,Nat.pow_succ]
  have h1:z.toNat<W:=by unfold W;omega
  have:W*aN a+W<=W^a.length*W:=by
   rw[Nat.mul_comm W,<-Nat.succ_mul];exact Nat.mul_le_mul_right _ this
  omega
theorem C8{a:List Int}(h:cP a)(hl:∀z,a.getLast?=some z->z≠0):aK (aN a)=a:=by
 induction a with
 |nil=>exact bF
 |cons z a ih=>
  obtain⟨hz,ha⟩:=cP.cons.1 h
  have hzW:z.toNat<W:=by unfold W;omega
  have ih':aK (aN a)=a:=ih ha fun y hy=>hl y (by rw[List.getLast?_cons];simp[hy])
  have hne:aN (z::a)≠0:=by
   intro h0
   rw[aN]at h0
   have hz0:z=0:=by omega
   have ha0:aN a=0:=by
    rcases Nat.eq_zero_or_pos (aN a)with h|h
    ·exact h
    ·have:=Nat.mul_pos ft h;omega
   rw[ha0,bF]at ih'
   subst ih'
   exact hl z (by simp) hz0
  rw[dA hne,aN,Nat.add_mul_mod_self_left,Nat.mod_eq_of_lt hzW,Nat.add_mul_div_left _ _ ft,Nat.div_eq_of_lt hzW,Nat.zero_add,ih']
  congr 1
  omega
def nl(n:Nat):D := .l (decide (n=0)) (ints .u32 (aK n))
theorem dJ(n:Nat):aK n=[]↔n=0:=by
 constructor
 ·intro h;rw[<-bY n,h];rfl
 ·intro h;subst h;exact bF
theorem dL(a:List Int)(n:Nat)(h:a[n]?=some 0):aN (a.take (n+1))=aN (a.take n):=by
 rw[List.take_add_one,h,cU]
 simp[aN]
end Go.Dn.Dec
namespace Go.Dn.Dec
def Lp:List (Nat×List (Nat×List Nat)):=
 [(19,[(23,[0,5]),(263,[0,5])]),
 (43,[(1011,[0,3,38]),(4083,[0,3,77])]),
 (44,[(61,[0,2,28]),(253,[0,2,45])]),
 (50,[(31,[0,3]),(639,[3,4,5,6]),(2047,[3,6,7]),(8191,[3,6,7,8])]),
 (90,[(487,[0,2,3,34]),(31,[0,2,3])]),
 (92,[(13,[0,2,42]),(61,[0,2,77]),(27,[0,2,103]),(30207,[0,2,7,8,9]),(62975,[0,7,8]),(32255,[0,7,10]),(2047,[0,7])]),
 (93,[(55,[0,2,4,60])]),
 (112,[(15,[4,5])]),
 (136,[(2,[0,1]),(24,[0,1,26])]),
 (140,[(127,[0,1,6]),(255,[0,1,6])]),
 (141,[(7,[0,12])]),
 (142,[(27,[0,3,18]),(119,[0,3,41]),(3767,[0,3,5,51])]),
 (143,[(351,[4,5,6,18])]),
 (144,[(511,[4,7,8]),(4095,[9])]),
 (161,[(351,[1,5,6,38,39,40])]),
 (162,[(19,[0,3]),(195,[0,3,15])]),
 (164,[(87,[0,1,5])]),
 (165,[(43,[1,5,18,19,20]),(44235,[1,5,6,7,8,18,19,20,25,26,27])]),
 (166,[(13,[0,9]),(39,[0,3])]),
 (168,[(43,[0,3,7,8])]),
 (169,[(55,[5,31])]),
 (184,[(55,[0,2,22]),(111,[0,2,41]),(447,[0,2,53])]),
 (185,[(175,[1,4,5,14]),(127,[5])]),
 (186,[(43,[0,3,6])]),
 (187,[(23,[0,1,6]),(455,[0,1,6,7,8])]),
 (196,[(87,[1,5,6,13,14,15])]),
 (198,[(175,[0,1,4,5,7]),(14639,[0,1,4,5,7])]),
 (199,[(7,[0,1]),(175,[1,5,6,20,21,22]),(62255,[1,5,6,20,21,22])]),
 (212,[(13,[0,15])]),
 (213,[(19,[0,4]),(195,[0,4,20])]),
 (218,[(175,[0,1,6,19,20]),(62255,[0,1,7,8,19,20]),(521007,[0,1,6,7,8,9,19,20])]),
 (150,[(27,[0,4,28]),(107,[0,4]),(159,[0,4,5,6,7]),(1567,[0,4,5,6,7,55]),(3359,[0,4,5,6,7]),(447,[0,4,5,7,79]),(45055,[4,5,7,8,11,12]),(131071,[4,11,13])]),
 (48,[(15,[0,3]),(447,[3,4,5,33]),(511,[3,4,5]),(2047,[3,6,7]),(10239,[3,6,7,8]),(32767,[3,6,7,8]),(458751,[3,8,10,104]),(1048575,[3,8,14]),(10485759,[3,8,15,16]),(102760447,[3,8,15,16,130])]),
 (188,[(27,[0,18]),(223,[0,5,33]),(2815,[0,5,6,7]),(201471,[0,5,6,7,57])]),
 (109,[(87,[0,1,5,6,7]),(791,[0,1,5,6,7,21])]),
 (105,[(43,[0,1,5,6]),(10827,[0,1,5,6,7,8])]),
 (106,[(87,[0,3,4])]),
 (189,[(23,[0,1,6]),(7111,[6,9,59])]),
 (102,[(43,[0,1,5,6]),(1611,[0,1,5,6,31])]),
 (103,[(39,[3,4]),(391,[3,4,18])]),
 (107,[(175,[0,1,7,8,9]),(1839,[0,1,7,8,9])]),
 (108,[(21,[0,1,5])]),
 (100,[(11,[0,3])]),
 (152,[(19,[0,3]),(195,[0,3,15])]),
 (215,[(7,[0,1])]),
 (154,[(175,[0,1,6,7,8])]),
 (20,[(47,[5,6])]),
 (21,[(43,[0,1,5])]),
 (45,[(2,[0]),(24,[0,20]),(212,[0,2,30]),(980,[0,52]),(2516,[0]),(25044,[0,87]),(38868,[0,3]),(399316,[0,3,125])]),
 (46,[(127,[0,2,3,4,5]),(3903,[0,2,3,4,5,72]),(16191,[0,2,3,4,5,83]),(57151,[0,2,3,115]),(65343,[0,2,3,4,118]),(622399,[0,2,3,4,6]),(6389567,[0,2,3,4,6,152]),(1802047,[0,2,3,6,170]),(393023,[0,2,3,4,7])]),
 (97,[(19,[0,2,3]),(195,[0,2,3,55]),(351,[0,2,3,4,5]),(12895,[0,2,3,4,5,103])]),
 (99,[(27,[0,2,3,38]),(55,[0,2,3,62]),(447,[0,2,3,4,97]),(895,[0,2,3,4,140]),(3455,[0,2,3,4,5]),(7551,[0,2,3,4,5,186]),(4095,[0,2,6,7])]),
 (145,[(121,[0,9]),(505,[0,20])]),
 (146,[(159,[0,2,3,4,5]),(1567,[0,2,3,4,5,46]),(511,[0,2,3,5,6])]),
 (147,[(19,[0,3]),(195,[0,3,29])]),
 (149,[(27,[0,4,16]),(351,[0,4,5,6]),(447,[4,5,47])]),
 (151,[(61,[0,4,6,47])])]
def cut(k:Nat)(p:List Bool):Option (List Nat):=(Lp.lookup k).bind fun l=>l.lookup (p.foldl (fun n b=>2*n+b.toNat) 1)
def Lk:List (Nat×Nat×Nat×Nat):=[(161,8,8,0),(196,1,3,0),(199,3,3,0),(162,4,3,0),(165,1,6,1),(198,4,2,1),(93,5,20,3),(19,8,8,3),(92,25,7,3),(44,9,15,3),(90,7,9,3),(140,10,10,3),(152,4,4,0),(105,1,6,1),(102,1,7,1),(107,3,3,1)]
def app(k r i:Nat):Nat:=((Lk.find? fun x=>x.1==k&&x.2.1==r&&x.2.2.1==i).map (·.2.2.2)).getD 2
def iR(k:IntKind):List D->Option (List Int)
 | []=>some []
 | .i j n::xs=>if j=k then(iR k xs).map (n :: ·)else none
 |_=>none
def Ag:Nat->Nat->List UInt8
 |0,n=>[UInt8.ofNat (48+n)]
 |k+1,n=>if n<10 then [UInt8.ofNat (48+n)]else Ag k (n / 10)++[UInt8.ofNat (48+n%10)]
def fM(n:Nat):List UInt8:=Ag n n
theorem BG:∀(k j n:Nat),n<=k->n<=j->Ag k n=Ag j n
 |0,0,_,_,_=>rfl
 |0,j+1,n,h,_=>by
  have:n=0:=by omega
  subst this;rfl
 |k+1,0,n,_,h=>by
  have:n=0:=by omega
  subst this;rfl
 |k+1,j+1,n,h1,h2=>by
  rw[Ag,Ag]
  split
  ·rfl
  ·rw[BG k j (n / 10) (by omega) (by omega)]
theorem kf(n:Nat):fM n=if n<10 then [UInt8.ofNat (48+n)]else fM (n / 10)++[UInt8.ofNat (48+n%10)]:=by
 unfold fM
 cases n with
 |zero=>rfl
 |succ k=>
  rw[Ag]
  split
  ·rfl
  ·rw[BG k ((k+1) / 10) ((k+1) / 10) (by omega) (by omega)]
def js(n:Int):List UInt8:=if n<0 then 45::fM n.natAbs else fM n.toNat
def trimRightB(c:UInt8)(x:List UInt8):List UInt8:=(x.reverse.dropWhile (· == c)).reverse
def bd(n:Nat):Nat:=if n=0 then 0 else n.log2+1
def kK(args:List V)(S:List Ob):Option Out:=
 match args with
 | [.d (.s x),.d (.s [c])]=>if c.toNat<128/\x.length<=1000000 then some (.d (.s (trimRightB c x)),S)else none
 |_=>none
def e8(args:List V)(S:List Ob):Option Out:=
 match args with
 | [.d (.s x),.d (.s [c])]=>if c.toNat<128 then some (.d (.s (x.dropWhile (· == c))),S)else none
 | [.d (.s x),.d (.s [43,45])]=>if x.length<=100000 then some (.d (.s (x.dropWhile fun c=>c==43||c==45)),S)else none
 |_=>none
def wq(args:List V)(S:List Ob):Option Out:=
 match args with
 | [.d (.i .i64 n)]=>if -1000000<n/\n<1000000 then some (.d (.s (js n)),S)else none
 |_=>none
def ni(args:List V)(S:List Ob):Option Out:=
 match args with
 | [.d (.i .u64 n),.d (.i .i64 b)]=>if b=10/\0<=n/\n<18446744073709551616 then some (.d (.s (fM n.toNat)),S)else none
 |_=>none
def lD(args:List V)(S:List Ob):Option Out:=
 match args with
 | [.d (.i .u32 n)]=>if 0<=n/\n<4294967296 then some (.d (.i .i64 (bd n.toNat:Nat)),S)else none
 |_=>none
def DU(x y:Nat):V:=if x<y then .t [.d (.l true []),.d (.b false)]else .t [.d (nl (x-y)),.d (.b true)]
def s5(args:List V)(S:List Ob):Option Out:=
 match args,S with
 | [.d (.l _ xs),.d (.l _ ys)],[]=>match iR .u32 xs,iR .u32 ys with
  |some a,some b=>if (a.all fun z=>decide (0<=z)&&decide (z<4294967296))=true/\(b.all fun z=>decide (0<=z)&&decide (z<4294967296))=true/\a.length<=100000/\b.length<=100000 then some (DU (aN a) (aN b),[])else none
  |_,_=>none
 |_,_=>none
def cc(t:List UInt8):List UInt8->Option Nat
 | []=>if t.isPrefixOf []=true then some 0 else none
 |c::r=>if t.isPrefixOf (c::r)=true then some 0 else(cc t r).map (· + 1)
def mm(o:Option Nat):Int:=match o with|some n=>(n:Int)|none=>-1
def gU(args:List V)(S:List Ob):Option Out:=
 match args with
 | [.d (.s x),.d (.s t)]=>if x.length<=100000/\t.length<=100000 then some (.d (.b (cc t x).isSome),S)else none
 |_=>none
def ji(args:List V)(S:List Ob):Option Out:=
 match args with
 | [.d (.s x),.d (.s t)]=>if x.length<=100000/\t.length<=100000 then some (.d (.i .i64 (mm (cc t x))),S)else none
 |_=>none
def eh(args:List V)(S:List Ob):Option Out:=
 match args with
 | [.d (.s x),.d (.i .u8 c)]=>if x.length<=100000/\0<=c/\c<256 then some (.d (.i .i64 (mm (x.findIdx? fun d=>d==UInt8.ofNat c.toNat))),S)else none
 |_=>none
def jQ(args:List V)(S:List Ob):Option Out:=
 match args with
 | [.d (.s x),.d (.s t)]=>if x.length<=100000/\t.length<=100000 then some (.d (.b (t.isSuffixOf x)),S)else none
 |_=>none
def bT(c:UInt8):Nat:=if c.toNat<=57 then c.toNat-48 else if 97<=c.toNat then c.toNat-87 else c.toNat-55
def fN(l:List UInt8):Nat:=l.foldl (fun a c=>a*16+bT c) 0
def mB(c:UInt8):Bool:=(decide (48<=c.toNat)&&decide (c.toNat<=57))||(decide (97<=c.toNat)&&decide (c.toNat<=102))||(decide (65<=c.toNat)&&decide (c.toNat<=70))
def jj(args:List V)(S:List Ob):Option Out:=
 match args with
 | [.d (.s x),.d (.i .i64 b),.d (.i .i64 z)]=>if b=16/\z=64/\x≠[]/\x.length<=16/\x.all mB=true then some (.t [.d (.i .u64 (fN x:Nat)),.nifc],S)else none
 |_=>none
def ext(k:Nat):Option (List V->List Ob->Option Out):=
 match k with
 |117=>some kK
 |183=>some e8
 |118=>some wq
 |167=>some ni
 |163=>some lD
 |218=>some s5
 |57=>some gU
 |123=>some ji
 |85=>some eh
 |138=>some jQ
 |182=>some jj
 |_=>none
def uC(k r i:Nat):Fl:=if k=19 then [(4,5)]else []
def aE:Pol:={ cut:=cut,app:=app,uC:=uC,ext:=ext }
end Go.Dn.Dec
namespace Go.Dn.Dec
def fI:List V->Option (List Int)
 | []=>some []
 | .d (.i .u32 n)::xs=>(fI xs).map (n :: ·)
 |_=>none
def Iv(a:List Int):Bool:=(a.all fun z=>decide (0<=z)&&decide (z<4294967296))&&decide (a.length<=100000)
def Ad(a:List Int):List V:=a.map fun z=>V.d (.i .u32 z)
def kc(args:List V)(S:List Ob):Option Out:=
 match args,S with
 | [.d (.l _ xs)],[]=>match iR .u32 xs with
  |some a=>if Iv a=true then some (.m 0 0 (aK (aN a)).length,[.cells (Ad (aK (aN a))) []])else none
  |none=>none
 | [.m 0 0 n],[.cells cs []]=>match fI cs with
  |some a=>if n=a.length/\Iv a=true then some (.d (nl (aN a)),[.cells cs []])else none
  |none=>none
 |_,_=>none
def oc(args:List V)(S:List Ob):Option Out:=
 match args,S with
 | [.m 0 0 n,.m 1 0 m],[.cells ds [],.cells cs []]=>match fI cs,fI ds with
  |some a,some b=>if n=a.length/\m=b.length/\Iv a=true/\Iv b=true then some (.d (.i .i64 (if aN a<aN b then -1 else if aN b<aN a then 1 else 0)),[.cells ds [],.cells cs []])else none
  |_,_=>none
 |_,_=>none
def ir:Pol:={ cut:=cut,app:=app,uC:=fun _ _ _=>[],ext:=fun _=>none }
def tL:Pol:={ cut:=cut,app:=fun k _ _=>if k=162 then 1 else 2,uC:=fun _ _ _=>[],ext:=fun _=>none }
def Ks(k:Nat):Option (List V->List Ob->Option Out):=
 match k with
 |162=>some kc
 |164=>some oc
 |_=>none
def iY:Pol:={ cut:=cut,app:=app,uC:=fun _ _ _=>[],ext:=Ks,fresh:=fun k=>k==162 }
end Go.Dn.Dec
namespace Go.Dn.Dec
open Go.Proofs
theorem a51(n:Nat)(cs:List V):rk Tryz.prog ir (.call 162 [.m 0 0 n] [.cells cs []])=aC (rk Tryz.prog ir) (.call (.at_ 162 1 [false,false,true,true] (sv 22 [(0,.m 0 0 n),(3,vi (n:Int))]) [] [.cells cs []]) .ret):=
 aF (by kernel_rfl)
theorem Li(n:Nat)(cs ds:List V):rk Tryz.prog ir (.call 162 [.m 1 0 n] [.cells ds [],.cells cs []])=aC (rk Tryz.prog ir) (.call (.at_ 162 2 [false,false,true,true] (sv 22 [(0,.m 1 0 n),(3,vi (n:Int))]) [] [.cells ds [],.cells cs []]) .ret):=
 aF (by kernel_rfl)
theorem Mn(n m:Nat)(cs ds:List V):rk Tryz.prog ir (.call 164 [.m 0 0 n,.m 1 0 m] [.cells ds [],.cells cs []])=aC (rk Tryz.prog ir) (c1 (.call 162 [.m 0 0 n] [.cells cs []]) cs.length [] fun a b=>aL a fun c e=>c2 (.call 162 [.m 1 0 m] [.cells ds [],.cells b []]) ds.length [] b.length [] fun f g h=>aL f fun j k=>aT (decide ((e.length:Int)<(k.length:Int))) (.ret (vi (-1),[.cells g [],.cells h []])) (aT (decide ((e.length:Int)>(k.length:Int))) (.ret (vi 1,[.cells g [],.cells h []])) (.call (.at_ 164 2 [false,true,false,true,true,true] (sv 49 [(0,vl c e),(1,vl j k),(5,vi (IntKind.i64.wrap ((e.length:Int)-1)))]) [] [.cells g [],.cells h []]) .ret))):=
 aF (by kernel_rfl)
theorem xp(m_0:Nat)(n_1:Int)(l_2:List V):rk Tryz.prog ir (.at_ 162 1 [false,false,true,true] (sv 22 [(0,.m 0 0 m_0),(3,vi n_1)]) [] [.cells l_2 []])=aC (rk Tryz.prog ir) (aT (decide (n_1>0)) (aM (decide (0<=IntKind.i64.wrap (n_1-1)/\IntKind.i64.wrap (n_1-1)<(m_0:Int))) (ob l_2[0+(IntKind.i64.wrap (n_1-1)).toNat]? fun a=>aW a fun c=>bD .u32 c fun e => .call (.at_ 162 1 [true,false,false,false,false,true,true] (sv 22 [(0,.m 0 0 m_0),(3,vi n_1),(15,vb (e==0))]) [] [.cells l_2 []]) .ret)) (.call (.at_ 162 1 [true,false,false,false,false,true,true] (sv 22 [(0,.m 0 0 m_0),(3,vi n_1),(15,vb false)]) [] [.cells l_2 []]) .ret)):=
 aF (by kernel_rfl)
theorem rA(m_0:Nat)(n_1:Int)(l_2 l_3:List V):rk Tryz.prog ir (.at_ 162 2 [false,false,true,true] (sv 22 [(0,.m 1 0 m_0),(3,vi n_1)]) [] [.cells l_2 [],.cells l_3 []])=aC (rk Tryz.prog ir) (aT (decide (n_1>0)) (aM (decide (0<=IntKind.i64.wrap (n_1-1)/\IntKind.i64.wrap (n_1-1)<(m_0:Int))) (ob l_2[0+(IntKind.i64.wrap (n_1-1)).toNat]? fun a=>aW a fun c=>bD .u32 c fun e => .call (.at_ 162 2 [true,false,false,false,false,true,true] (sv 22 [(0,.m 1 0 m_0),(3,vi n_1),(15,vb (e==0))]) [] [.cells l_2 [],.cells l_3 []]) .ret)) (.call (.at_ 162 2 [true,false,false,false,false,true,true] (sv 22 [(0,.m 1 0 m_0),(3,vi n_1),(15,vb false)]) [] [.cells l_2 [],.cells l_3 []]) .ret)):=
 aF (by kernel_rfl)
theorem xq(b_0:Bool)(l_1:List D)(b_2:Bool)(l_3:List D)(n_4:Int)(l_5 l_6:List V):rk Tryz.prog ir (.at_ 164 2 [false,true,false,true,true,true] (sv 49 [(0,vl b_0 l_1),(1,vl b_2 l_3),(5,vi n_4)]) [] [.cells l_5 [],.cells l_6 []])=aC (rk Tryz.prog ir) (aT (decide (n_4 ≥ 0)) (eC l_1 n_4 1 0 fun a=>bD .u32 a fun b=>eC l_3 n_4 1 0 fun c=>bD .u32 c fun e=>aT (decide (b<e)) (.ret (vi (-1),[.cells l_5 [],.cells l_6 []])) (eC l_1 n_4 1 0 fun f=>bD .u32 f fun g=>eC l_3 n_4 1 0 fun h=>bD .u32 h fun j=>aT (decide (g>j)) (.ret (vi 1,[.cells l_5 [],.cells l_6 []])) (.call (.at_ 164 2 [false,true,false,true,true,true] (sv 49 [(0,vl b_0 l_1),(1,vl b_2 l_3),(5,vi (IntKind.i64.wrap (n_4-1)))]) [] [.cells l_5 [],.cells l_6 []]) .ret))) (.ret (vi 0,[.cells l_5 [],.cells l_6 []]))):=
 aF (by kernel_rfl)
theorem pg(m_0:Nat)(n_1:Int)(b_2:Bool)(l_3:List V):rk Tryz.prog ir (.at_ 162 1 [true,false,false,false,false,true,true] (sv 22 [(0,.m 0 0 m_0),(3,vi n_1),(15,vb b_2)]) [] [.cells l_3 []])=aC (rk Tryz.prog ir) (aT b_2 (.call (.at_ 162 1 [false,false,true,true] (sv 22 [(0,.m 0 0 m_0),(3,vi (IntKind.i64.wrap (n_1-1)))]) [] [.cells l_3 []]) .ret) (aM (decide (0<=n_1/\n_1<=(m_0:Int))) (ob (dw [.cells l_3 []] 1 (.m 0 0 (n_1.toNat-0))) fun a=>aM (bw 1 a) (aM (decide (0+a.length<=4294967296)) (.ret (vl a.isEmpty ([]++a),[.cells l_3 []])))))):=
 aF (by kernel_rfl)
theorem k9(m_0:Nat)(n_1:Int)(b_2:Bool)(l_3 l_4:List V):rk Tryz.prog ir (.at_ 162 2 [true,false,false,false,false,true,true] (sv 22 [(0,.m 1 0 m_0),(3,vi n_1),(15,vb b_2)]) [] [.cells l_3 [],.cells l_4 []])=aC (rk Tryz.prog ir) (aT b_2 (.call (.at_ 162 2 [false,false,true,true] (sv 22 [(0,.m 1 0 m_0),(3,vi (IntKind.i64.wrap (n_1-1)))]) [] [.cells l_3 [],.cells l_4 []]) .ret) (aM (decide (0<=n_1/\n_1<=(m_0:Int))) (ob (dw [.cells l_3 [],.cells l_4 []] 1 (.m 1 0 (n_1.toNat-0))) fun a=>aM (bw 1 a) (aM (decide (0+a.length<=4294967296)) (.ret (vl a.isEmpty ([]++a),[.cells l_3 [],.cells l_4 []])))))):=
 aF (by kernel_rfl)
theorem c51(b:Bool)(xs:List D):rk Tryz.prog tL (.call 162 [vl b xs] [])=aC (rk Tryz.prog tL) (.call (.at_ 162 0 [false,false,true,true] (sv 22 [(0,vl b xs),(3,vi (xs.length:Int))]) [] []) .ret):=
 aF (by kernel_rfl)
theorem xz(b_0:Bool)(l_1:List D)(n_2:Int):rk Tryz.prog tL (.at_ 162 0 [false,false,true,true] (sv 22 [(0,vl b_0 l_1),(3,vi n_2)]) [] [])=aC (rk Tryz.prog tL) (aT (decide (n_2>0)) (eC l_1 (IntKind.i64.wrap (n_2-1)) 1 0 fun a=>bD .u32 a fun c => .call (.at_ 162 0 [true,false,false,false,false,true,true] (sv 22 [(0,vl b_0 l_1),(3,vi n_2),(15,vb (c==0))]) [] []) .ret) (.call (.at_ 162 0 [true,false,false,false,false,true,true] (sv 22 [(0,vl b_0 l_1),(3,vi n_2),(15,vb false)]) [] []) .ret)):=
 aF (by kernel_rfl)
theorem Mz(b:Bool)(xs:List D)(c:Bool)(ys:List D):rk Tryz.prog iY (.call 218 [vl b xs,vl c ys] [])=aC (rk Tryz.prog iY) (.call (.call 162 [vl b xs] []) fun a=>J3 a fun e f => .call (.call 162 [vl c ys] []) fun g=>J3 g fun h j=>c2 (.call 164 [.m 0 0 f,.m 1 0 j] [.cells h [],.cells e []]) h.length [] e.length [] fun k n o=>aI k fun p=>aT (decide (p<0)) (.ret (.t [vl true [],vb false],[])) (.call (.at_ 218 0 [false,true,false,true,true,true,true] (sv 55 [(0,.m 0 0 f),(1,.m 1 0 j),(6,vu 0),(19,vi (f:Int)),(20,vi 0)]) [] [.cells n [],.cells o []]) .ret)):=
 aF (by kernel_rfl)
theorem vt(m_0 m_1:Nat)(n_2 n_3 n_4:Int)(l_5 l_6:List V):rk Tryz.prog iY (.at_ 218 0 [false,true,false,true,true,true,true] (sv 55 [(0,.m 0 0 m_0),(1,.m 1 0 m_1),(6,vu n_2),(19,vi n_3),(20,vi n_4)]) [] [.cells l_5 [],.cells l_6 []])=aC (rk Tryz.prog iY) (aT (decide (n_4<n_3)) (aT (decide (n_4<(m_1:Int))) (aM (decide (0<=n_4/\n_4<(m_1:Int))) (ob l_5[0+n_4.toNat]? fun a=>aW a fun c=>bD .u32 c fun e => .call (.at_ 218 0 [true,true,true,false,false,true,true,false,false,true,false,true,true,true,true] (sv 55 [(0,.m 0 0 m_0),(1,.m 1 0 m_1),(7,vi n_4),(8,vu (IntKind.u64.wrap (n_2+IntKind.u64.wrap e))),(19,vi n_3),(20,vi n_4)]) [] [.cells l_5 [],.cells l_6 []]) .ret)) (.call (.at_ 218 0 [true,true,true,false,false,true,true,false,false,true,false,true,true,true,true] (sv 55 [(0,.m 0 0 m_0),(1,.m 1 0 m_1),(7,vi n_4),(8,vu n_2),(19,vi n_3),(20,vi n_4)]) [] [.cells l_5 [],.cells l_6 []]) .ret)) (c1 (.call 162 [.m 0 0 m_0] [.cells l_6 []]) l_6.length [] fun f g=>aL f fun h j => .ret (.t [vl h j,vb true],[]))):=
 aF (by kernel_rfl)
theorem zh(m_0 m_1:Nat)(n_2 n_3 n_4 n_5:Int)(l_6 l_7:List V):rk Tryz.prog iY (.at_ 218 0 [true,true,true,false,false,true,true,false,false,true,false,true,true,true,true] (sv 55 [(0,.m 0 0 m_0),(1,.m 1 0 m_1),(7,vi n_2),(8,vu n_3),(19,vi n_4),(20,vi n_5)]) [] [.cells l_6 [],.cells l_7 []])=aC (rk Tryz.prog iY) (aM (decide (0<=n_2/\n_2<(m_0:Int))) (ob l_7[0+n_2.toNat]? fun a=>aW a fun b=>bD .u32 b fun c=>aT (decide (IntKind.u64.wrap c<n_3)) (.call (.at_ 218 0 [true,true,true,true,true,true,false,false,true,true,false,false,true,false,true,true,true,true] (sv 55 [(0,.m 0 0 m_0),(1,.m 1 0 m_1),(6,vu 1),(7,vi n_2),(8,vu n_3),(9,vu (IntKind.u64.wrap (IntKind.u64.wrap c+4294967296))),(19,vi n_4),(20,vi n_5)]) [] [.cells l_6 [],.cells l_7 []]) .ret) (.call (.at_ 218 0 [true,true,true,true,true,true,false,false,true,true,false,false,true,false,true,true,true,true] (sv 55 [(0,.m 0 0 m_0),(1,.m 1 0 m_1),(6,vu 0),(7,vi n_2),(8,vu n_3),(9,vu (IntKind.u64.wrap c)),(19,vi n_4),(20,vi n_5)]) [] [.cells l_6 [],.cells l_7 []]) .ret))):=
 aF (by kernel_rfl)
theorem wQ(m_0 m_1:Nat)(n_2 n_3 n_4 n_5 n_6 n_7:Int)(l_8 l_9:List V):rk Tryz.prog iY (.at_ 218 0 [true,true,true,true,true,true,false,false,true,true,false,false,true,false,true,true,true,true] (sv 55 [(0,.m 0 0 m_0),(1,.m 1 0 m_1),(6,vu n_2),(7,vi n_3),(8,vu n_4),(9,vu n_5),(19,vi n_6),(20,vi n_7)]) [] [.cells l_8 [],.cells l_9 []])=aC (rk Tryz.prog iY) (aM (decide (0<=n_3/\n_3<(m_0:Int))) (aM (decide (0+n_3.toNat<l_9.length)&&true) (.call (.at_ 218 0 [false,true,false,true,true,true,true] (sv 55 [(0,.m 0 0 m_0),(1,.m 1 0 m_1),(6,vu n_2),(19,vi n_6),(20,vi (IntKind.i64.wrap (n_7+1)))]) [] [.cells l_8 [],.cells (l_9.set (0+n_3.toNat) (.d (.i .u32 (IntKind.u32.wrap (IntKind.u64.wrap (n_5-n_4)))))) []]) .ret))):=
 aF (by kernel_rfl)
end Go.Dn.Dec
namespace Go.Dn.Dec
open Go.Proofs
theorem f51(b:Bool)(xs:List D):rk Tryz.prog aE (.call 162 [vl b xs] [])=aC (rk Tryz.prog aE) (.call (.at_ 162 0 [false,false,true,true] (sv 22 [(0,vl b xs),(3,vi (xs.length:Int))]) [] []) .ret):=
 aF (by kernel_rfl)
theorem LD(n:Nat)(cs:List V):rk Tryz.prog aE (.call 162 [.m 0 0 n] [.cells cs []])=aC (rk Tryz.prog aE) (.call (.at_ 162 1 [false,false,true,true] (sv 22 [(0,.m 0 0 n),(3,vi (n:Int))]) [] [.cells cs []]) .ret):=
 aF (by kernel_rfl)
theorem f23(n:Int):rk Tryz.prog aE (.call 160 [vu n] [])=aC (rk Tryz.prog aE) (cV (.call 162 [vl true [.i .u32 (IntKind.u32.wrap n),.i .u32 (IntKind.u32.wrap (n.fdiv 4294967296))]] []) fun a=>aL a fun b c => .ret (vl b c,[])):=
 aF (by kernel_rfl)
theorem f25(n:Int):rk Tryz.prog aE (.call 166 [vi n] [])=aC (rk Tryz.prog aE) (aT (decide (n<0)) (.call (.at_ 166 0 [true,false,true] (sv 18 [(0,vi n),(9,vb true)]) [] []) .ret) (.call (.at_ 166 0 [true,false,true] (sv 18 [(0,vi n),(9,vb (decide (n>1000)))]) [] []) .ret)):=
 aF (by kernel_rfl)
theorem f52(b:Bool)(xs:List D)(n:Int):rk Tryz.prog aE (.call 196 [vl b xs,.d (.i .u32 n)] [])=aC (rk Tryz.prog aE) (aM (decide (0<=IntKind.i64.wrap ((xs.length:Int)+1))) (aM (decide (IntKind.i64.wrap ((xs.length:Int)+1)<=4294967296)) (.call (.at_ 196 0 [false,true,false,true,true,true] (sv 40 [(1,.d (.i .u32 n)),(5,vl false []),(6,vu 0),(13,vl b xs),(14,vi (xs.length:Int)),(15,vi 0)]) [(5,1)] []) .ret))):=
 aF (by kernel_rfl)
theorem f24(b:Bool)(xs:List D)(c:Bool)(ys:List D):rk Tryz.prog aE (.call 165 [vl b xs,vl c ys] [])=aC (rk Tryz.prog aE) (aM (decide (0<=IntKind.i64.wrap (IntKind.i64.wrap ((xs.length:Int)+(ys.length:Int))+1))) (aM (decide (IntKind.i64.wrap (IntKind.i64.wrap ((xs.length:Int)+(ys.length:Int))+1)=IntKind.i64.wrap (IntKind.i64.wrap ((xs.length:Int)+(ys.length:Int))+1))) (aM (decide (IntKind.i64.wrap (IntKind.i64.wrap ((xs.length:Int)+(ys.length:Int))+1)<=4294967296)) (.call (.at_ 165 0 [false,true,false,true,true] (sv 68 [(1,vl c ys),(5,.m 0 0 (IntKind.i64.wrap (IntKind.i64.wrap ((xs.length:Int)+(ys.length:Int))+1)).toNat),(18,vl b xs),(19,vi (xs.length:Int)),(20,vi 0)]) [] [.cells (List.replicate (IntKind.i64.wrap (IntKind.i64.wrap ((xs.length:Int)+(ys.length:Int))+1)).toNat (.d (.i .u32 0))) []]) .ret)))):=
 aF (by kernel_rfl)
theorem f50(b:Bool)(xs:List D)(c:Bool)(ys:List D):rk Tryz.prog aE (.call 199 [vl b xs,vl c ys] [])=aC (rk Tryz.prog aE) (aT (decide ((xs.length:Int)<(ys.length:Int))) (.call (.at_ 199 0 [true,true] (sv 56 [(0,vl c ys),(1,vl b xs)]) [] []) .ret) (.call (.at_ 199 0 [true,true] (sv 56 [(0,vl b xs),(1,vl c ys)]) [] []) .ret)):=
 aF (by kernel_rfl)
theorem f53(b:Bool)(xs:List D)(n:Int):rk Tryz.prog aE (.call 161 [vl b xs,vi n] [])=aC (rk Tryz.prog aE) (cV (.call 162 [vl b xs] []) fun a=>aL a fun c e=>aT (decide (n<IntKind.i64.wrap (-32*IntKind.i64.wrap ((e.length:Int)+1)))) (.ret (vl true [],[])) (aT (decide (n<0)) (cV (.call 195 [vl c e,vi (IntKind.i64.wrap (0-n))] []) fun f=>aL f fun g h => .ret (vl g h,[])) (aT ((e.length:Int)==0) (.ret (vl true [],[])) (aM (decide (0<=IntKind.i64.wrap (n.tdiv 32))) (aM (decide (IntKind.i64.wrap (n.tdiv 32)<=IntKind.i64.wrap (IntKind.i64.wrap (IntKind.i64.wrap (n.tdiv 32)+(e.length:Int))+1))) (aM (decide (IntKind.i64.wrap (IntKind.i64.wrap (IntKind.i64.wrap (n.tdiv 32)+(e.length:Int))+1)<=4294967296)) (.call (.at_ 161 0 [false,true,false,true,true,true,true,true] (sv 65 [(1,vi n),(5,vl false (List.replicate (IntKind.i64.wrap (n.tdiv 32)).toNat (.i .u32 0))),(6,vu 0),(38,vl c e),(39,vi (e.length:Int)),(40,vi 0)]) [(5,1)] []) .ret))))))):=
 aF (by kernel_rfl)
theorem f74(b:Bool)(xs:List D)(c:Bool)(ys:List D):rk Tryz.prog aE (.call 198 [vl b xs,vl c ys] [])=aC (rk Tryz.prog aE) (cV (.call 162 [vl b xs] []) fun a=>aL a fun e f=>cV (.call 162 [vl c ys] []) fun g=>aL g fun h j=>aT ((j.length:Int)==0) (.ret (.t [vl true [],vl true [],vb false],[])) (aM (decide ((f.length:Int)=(f.length:Int))) (aM (decide ((f.length:Int)<=4294967296)) (cV (.call 113 [vl e f] []) fun k=>aI k fun n => .call (.at_ 198 0 [false,true,false,true,true,true,true] (sv 64 [(0,vl e f),(1,vl h j),(4,.m 0 0 (f.length:Int).toNat),(5,vl true []),(7,vi (IntKind.i64.wrap (n-1)))]) [(5,1)] [.cells (List.replicate (f.length:Int).toNat (.d (.i .u32 0))) []]) .ret)))):=
 aF (by kernel_rfl)
theorem f34(b:Bool)(xs:List D):rk Tryz.prog aE (.call 113 [vl b xs] [])=aC (rk Tryz.prog aE) (cV (.call 162 [vl b xs] []) fun a=>aL a fun c e=>aT ((e.length:Int)==0) (.ret (vi 0,[])) (eC e (IntKind.i64.wrap ((e.length:Int)-1)) 1 0 fun f=>bD .u32 f fun g=>cV (.call 163 [.d (.i .u32 g)] []) fun h=>aI h fun j => .ret (vi (IntKind.i64.wrap (IntKind.i64.wrap (32*IntKind.i64.wrap ((e.length:Int)-1))+j)),[]))):=
 aF (by kernel_rfl)
theorem f62(b:Bool)(xs:List D)(c:Bool)(ys:List D):rk Tryz.prog aE (.call 164 [vl b xs,vl c ys] [])=aC (rk Tryz.prog aE) (cV (.call 162 [vl b xs] []) fun a=>aL a fun e f=>cV (.call 162 [vl c ys] []) fun g=>aL g fun h j=>aT (decide ((f.length:Int)<(j.length:Int))) (.ret (vi (-1),[])) (aT (decide ((f.length:Int)>(j.length:Int))) (.ret (vi 1,[])) (.call (.at_ 164 0 [false,true,false,true,true,true] (sv 49 [(0,vl e f),(1,vl h j),(5,vi (IntKind.i64.wrap ((f.length:Int)-1)))]) [] []) .ret))):=
 aF (by kernel_rfl)
theorem f56(b:Bool)(xs:List D):rk Tryz.prog aE (.call 168 [vl b xs] [])=aC (rk Tryz.prog aE) (.call (.at_ 168 0 [false,true,false,true,true] (sv 23 [(0,vl b xs),(3,vu 0),(7,vi (if 2<(xs.length:Int)then 2 else(xs.length:Int))),(8,vi 0)]) [] []) .ret):=
 aF (by kernel_rfl)
theorem x6(b_0:Bool)(l_1:List D)(n_2:Int):rk Tryz.prog aE (.at_ 162 0 [false,false,true,true] (sv 22 [(0,vl b_0 l_1),(3,vi n_2)]) [] [])=aC (rk Tryz.prog aE) (aT (decide (n_2>0)) (eC l_1 (IntKind.i64.wrap (n_2-1)) 1 0 fun a=>bD .u32 a fun c => .call (.at_ 162 0 [true,false,false,false,false,true,true] (sv 22 [(0,vl b_0 l_1),(3,vi n_2),(15,vb (c==0))]) [] []) .ret) (.call (.at_ 162 0 [true,false,false,false,false,true,true] (sv 22 [(0,vl b_0 l_1),(3,vi n_2),(15,vb false)]) [] []) .ret)):=
 aF (by kernel_rfl)
theorem r8(m_0:Nat)(n_1:Int)(l_2:List V):rk Tryz.prog aE (.at_ 162 1 [false,false,true,true] (sv 22 [(0,.m 0 0 m_0),(3,vi n_1)]) [] [.cells l_2 []])=aC (rk Tryz.prog aE) (aT (decide (n_1>0)) (aM (decide (0<=IntKind.i64.wrap (n_1-1)/\IntKind.i64.wrap (n_1-1)<(m_0:Int))) (ob l_2[0+(IntKind.i64.wrap (n_1-1)).toNat]? fun a=>aW a fun c=>bD .u32 c fun e => .call (.at_ 162 1 [true,false,false,false,false,true,true] (sv 22 [(0,.m 0 0 m_0),(3,vi n_1),(15,vb (e==0))]) [] [.cells l_2 []]) .ret)) (.call (.at_ 162 1 [true,false,false,false,false,true,true] (sv 22 [(0,.m 0 0 m_0),(3,vi n_1),(15,vb false)]) [] [.cells l_2 []]) .ret)):=
 aF (by kernel_rfl)
theorem EN(n_0:Int)(b_1:Bool):rk Tryz.prog aE (.at_ 166 0 [true,false,true] (sv 18 [(0,vi n_0),(9,vb b_1)]) [] [])=aC (rk Tryz.prog aE) (aT b_1 (.ret (vl true [],[])) (cV (.call 160 [vu 1] []) fun a=>aL a fun c e => .call (.at_ 166 0 [false,false,true,true,true] (sv 18 [(0,vi n_0),(3,vl c e)]) [] []) .ret)):=
 aF (by kernel_rfl)
theorem x7(n_0:Int)(b_1:Bool)(l_2:List D)(n_3:Int)(b_4:Bool)(l_5:List D)(n_6 n_7:Int):rk Tryz.prog aE (.at_ 196 0 [false,true,false,true,true,true] (sv 40 [(1,.d (.i .u32 n_0)),(5,vl b_1 l_2),(6,vu n_3),(13,vl b_4 l_5),(14,vi n_6),(15,vi n_7)]) [(5,1)] [])=aC (rk Tryz.prog aE) (aT (decide (n_7<n_6)) (eC l_5 n_7 1 0 fun a=>bD .u32 a fun b=>aM (bw 1 l_2) (aM (b_1||true) (aM (decide (l_2.length+1<=4294967296)) (.call (.at_ 196 0 [false,true,false,true,true,true] (sv 40 [(1,.d (.i .u32 n_0)),(5,vl (b_1&&false) (l_2++[.i .u32 (IntKind.u32.wrap (IntKind.u64.wrap (n_3+IntKind.u64.wrap (IntKind.u64.wrap b*IntKind.u64.wrap n_0))))])),(6,vu ((IntKind.u64.wrap (n_3+IntKind.u64.wrap (IntKind.u64.wrap b*IntKind.u64.wrap n_0))).fdiv 4294967296)),(13,vl b_4 l_5),(14,vi n_6),(15,vi (IntKind.i64.wrap (n_7+1)))]) [(5,1)] []) .ret)))) (aM (bw 1 l_2) (aM (b_1||true) (aM (decide (l_2.length+1<=4294967296)) (cV (.call 162 [vl (b_1&&false) (l_2++[.i .u32 (IntKind.u32.wrap n_3)])] []) fun c=>aL c fun e f => .ret (vl e f,[])))))):=
 aF (by kernel_rfl)
theorem xT(b_0:Bool)(l_1:List D)(m_2:Nat)(b_3:Bool)(l_4:List D)(n_5 n_6:Int)(l_7:List V):rk Tryz.prog aE (.at_ 165 0 [false,true,false,true,true] (sv 68 [(1,vl b_0 l_1),(5,.m 0 0 m_2),(18,vl b_3 l_4),(19,vi n_5),(20,vi n_6)]) [] [.cells l_7 []])=aC (rk Tryz.prog aE) (aT (decide (n_6<n_5)) (eC l_4 n_6 1 0 fun a=>bD .u32 a fun b => .call (.at_ 165 0 [false,true,false,true,true,false,false,true,true,false,false,true,false,true,true] (sv 68 [(1,vl b_0 l_1),(5,.m 0 0 m_2),(6,vi n_6),(7,.d (.i .u32 b)),(8,vu 0),(18,vl b_3 l_4),(19,vi n_5),(20,vi n_6),(25,vl b_0 l_1),(26,vi (l_1.length:Int)),(27,vi 0)]) [] [.cells l_7 []]) .ret) (c1 (.call 162 [.m 0 0 m_2] [.cells l_7 []]) l_7.length [] fun c e=>aL c fun f g => .ret (vl f g,[]))):=
 aF (by kernel_rfl)
theorem Hj(b_0:Bool)(l_1:List D)(b_2:Bool)(l_3:List D):rk Tryz.prog aE (.at_ 199 0 [true,true] (sv 56 [(0,vl b_0 l_1),(1,vl b_2 l_3)]) [] [])=aC (rk Tryz.prog aE) (aM (decide (0<=IntKind.i64.wrap ((l_1.length:Int)+1))) (aM (decide (IntKind.i64.wrap ((l_1.length:Int)+1)<=4294967296)) (.call (.at_ 199 0 [false,true,false,true,true,true,true] (sv 56 [(1,vl b_2 l_3),(5,vl false []),(6,vu 0),(20,vl b_0 l_1),(21,vi (l_1.length:Int)),(22,vi 0)]) [(5,1)] []) .ret))):=
 aF (by kernel_rfl)
theorem uv(n_0:Int)(b_1:Bool)(l_2:List D)(n_3:Int)(b_4:Bool)(l_5:List D)(n_6 n_7:Int):rk Tryz.prog aE (.at_ 161 0 [false,true,false,true,true,true,true,true] (sv 65 [(1,vi n_0),(5,vl b_1 l_2),(6,vu n_3),(38,vl b_4 l_5),(39,vi n_6),(40,vi n_7)]) [(5,1)] [])=aC (rk Tryz.prog aE) (aT (decide (n_7<n_6)) (eC l_5 n_7 1 0 fun a=>bD .u32 a fun b=>aM (decide (0<=n_0.tmod 32)) (aM (bw 1 l_2) (aM (b_1||true) (aM (decide (l_2.length+1<=4294967296)) (.call (.at_ 161 0 [false,true,false,true,true,true,true,true] (sv 65 [(1,vi n_0),(5,vl (b_1&&false) (l_2++[.i .u32 (IntKind.u32.wrap (IntKind.u64.wrap ((BitVec.ofInt IntKind.u64.bits n_3 ||| BitVec.ofInt IntKind.u64.bits (IntKind.u64.wrap (IntKind.u64.wrap b*2^min (n_0.tmod 32).toNat 64))).toNat:Int)))])),(6,vu ((IntKind.u64.wrap ((BitVec.ofInt IntKind.u64.bits n_3 ||| BitVec.ofInt IntKind.u64.bits (IntKind.u64.wrap (IntKind.u64.wrap b*2^min (n_0.tmod 32).toNat 64))).toNat:Int)).fdiv 4294967296)),(38,vl b_4 l_5),(39,vi n_6),(40,vi (IntKind.i64.wrap (n_7+1)))]) [(5,1)] []) .ret))))) (aM (bw 1 l_2) (aM (b_1||true) (aM (decide (l_2.length+1<=4294967296)) (cV (.call 162 [vl (b_1&&false) (l_2++[.i .u32 (IntKind.u32.wrap n_3)])] []) fun c=>aL c fun e f => .ret (vl e f,[])))))):=
 aF (by kernel_rfl)
theorem uy(b_0:Bool)(l_1:List D)(b_2:Bool)(l_3:List D)(m_4:Nat)(b_5:Bool)(l_6:List D)(n_7:Int)(l_8:List V):rk Tryz.prog aE (.at_ 198 0 [false,true,false,true,true,true,true] (sv 64 [(0,vl b_0 l_1),(1,vl b_2 l_3),(4,.m 0 0 m_4),(5,vl b_5 l_6),(7,vi n_7)]) [(5,1)] [.cells l_8 []])=aC (rk Tryz.prog aE) (aT (decide (n_7 ≥ 0)) (cV (.call 161 [vl b_5 l_6,vi 1] []) fun a=>aL a fun c e=>eC l_1 (IntKind.i64.wrap (n_7.tdiv 32)) 1 0 fun f=>bD .u32 f fun g=>aM (decide (0<=n_7.tmod 32)) (aT (IntKind.u32.wrap ((BitVec.ofInt IntKind.u32.bits (g.fdiv (2^min (n_7.tmod 32).toNat 32)) &&& BitVec.ofInt IntKind.u32.bits 1).toNat:Int) != 0) (cV (.call 160 [vu 1] []) fun h=>aL h fun j k=>cV (.call 199 [vl c e,vl j k] []) fun n=>aL n fun o p => .call (.at_ 198 0 [true,true,false,false,true,false,false,true,false,true,true,true,true] (sv 64 [(0,vl b_0 l_1),(1,vl b_2 l_3),(4,.m 0 0 m_4),(5,vl o p),(7,vi n_7)]) [] [.cells l_8 []]) .ret) (.call (.at_ 198 0 [true,true,false,false,true,false,false,true,false,true,true,true,true] (sv 64 [(0,vl b_0 l_1),(1,vl b_2 l_3),(4,.m 0 0 m_4),(5,vl c e),(7,vi n_7)]) [] [.cells l_8 []]) .ret))) (c1 (.call 162 [.m 0 0 m_4] [.cells l_8 []]) l_8.length [] fun q r=>aL q fun s zu=>cV (.call 162 [vl b_5 l_6] []) fun v=>aL v fun w x => .ret (.t [vl s zu,vl w x,vb true],[]))):=
 aF (by kernel_rfl)
theorem ya(b_0:Bool)(l_1:List D)(b_2:Bool)(l_3:List D)(n_4:Int):rk Tryz.prog aE (.at_ 164 0 [false,true,false,true,true,true] (sv 49 [(0,vl b_0 l_1),(1,vl b_2 l_3),(5,vi n_4)]) [] [])=aC (rk Tryz.prog aE) (aT (decide (n_4 ≥ 0)) (eC l_1 n_4 1 0 fun a=>bD .u32 a fun b=>eC l_3 n_4 1 0 fun c=>bD .u32 c fun e=>aT (decide (b<e)) (.ret (vi (-1),[])) (eC l_1 n_4 1 0 fun f=>bD .u32 f fun g=>eC l_3 n_4 1 0 fun h=>bD .u32 h fun j=>aT (decide (g>j)) (.ret (vi 1,[])) (.call (.at_ 164 0 [false,true,false,true,true,true] (sv 49 [(0,vl b_0 l_1),(1,vl b_2 l_3),(5,vi (IntKind.i64.wrap (n_4-1)))]) [] []) .ret))) (.ret (vi 0,[]))):=
 aF (by kernel_rfl)
theorem x8(b_0:Bool)(l_1:List D)(n_2 n_3 n_4:Int):rk Tryz.prog aE (.at_ 168 0 [false,true,false,true,true] (sv 23 [(0,vl b_0 l_1),(3,vu n_2),(7,vi n_3),(8,vi n_4)]) [] [])=aC (rk Tryz.prog aE) (aT (decide (n_4<n_3)) (eC l_1 n_4 1 0 fun a=>bD .u32 a fun b=>aM (decide (0<=IntKind.i64.wrap (32*n_4))) (.call (.at_ 168 0 [false,true,false,true,true] (sv 23 [(0,vl b_0 l_1),(3,vu (IntKind.u64.wrap ((BitVec.ofInt IntKind.u64.bits n_2 ||| BitVec.ofInt IntKind.u64.bits (IntKind.u64.wrap (IntKind.u64.wrap b*2^min (IntKind.i64.wrap (32*n_4)).toNat 64))).toNat:Int))),(7,vi n_3),(8,vi (IntKind.i64.wrap (n_4+1)))]) [] []) .ret)) (.ret (vu n_2,[]))):=
 aF (by kernel_rfl)
theorem pG(b_0:Bool)(l_1:List D)(n_2:Int)(b_3:Bool):rk Tryz.prog aE (.at_ 162 0 [true,false,false,false,false,true,true] (sv 22 [(0,vl b_0 l_1),(3,vi n_2),(15,vb b_3)]) [] [])=aC (rk Tryz.prog aE) (aT b_3 (.call (.at_ 162 0 [false,false,true,true] (sv 22 [(0,vl b_0 l_1),(3,vi (IntKind.i64.wrap (n_2-1)))]) [] []) .ret) (aM (decide (0<=n_2/\n_2<=(l_1.length:Int))) (aM (bw 1 l_1) (aM (bw 1 (List.take (n_2.toNat-0) (List.drop 0 l_1))) (aM (decide (0+(List.take (n_2.toNat-0) (List.drop 0 l_1)).length<=4294967296)) (.ret (vl (List.take (n_2.toNat-0) (List.drop 0 l_1)).isEmpty ([]++List.take (n_2.toNat-0) (List.drop 0 l_1)),[]))))))):=
 aF (by kernel_rfl)
theorem jg(m_0:Nat)(n_1:Int)(b_2:Bool)(l_3:List V):rk Tryz.prog aE (.at_ 162 1 [true,false,false,false,false,true,true] (sv 22 [(0,.m 0 0 m_0),(3,vi n_1),(15,vb b_2)]) [] [.cells l_3 []])=aC (rk Tryz.prog aE) (aT b_2 (.call (.at_ 162 1 [false,false,true,true] (sv 22 [(0,.m 0 0 m_0),(3,vi (IntKind.i64.wrap (n_1-1)))]) [] [.cells l_3 []]) .ret) (aM (decide (0<=n_1/\n_1<=(m_0:Int))) (ob (dw [.cells l_3 []] 1 (.m 0 0 (n_1.toNat-0))) fun a=>aM (bw 1 a) (aM (decide (0+a.length<=4294967296)) (.ret (vl a.isEmpty ([]++a),[.cells l_3 []])))))):=
 aF (by kernel_rfl)
theorem xU(n_0:Int)(b_1:Bool)(l_2:List D):rk Tryz.prog aE (.at_ 166 0 [false,false,true,true,true] (sv 18 [(0,vi n_0),(3,vl b_1 l_2)]) [] [])=aC (rk Tryz.prog aE) (aT (decide (n_0>0)) (cV (.call 196 [vl b_1 l_2,.d (.i .u32 10)] []) fun a=>aL a fun b c => .call (.at_ 166 0 [false,false,true,true,true] (sv 18 [(0,vi (IntKind.i64.wrap (n_0-1))),(3,vl b c)]) [] []) .ret) (.ret (vl b_1 l_2,[]))):=
 aF (by kernel_rfl)
theorem qj(b_0:Bool)(l_1:List D)(m_2:Nat)(n_3 n_4 n_5:Int)(b_6:Bool)(l_7:List D)(n_8 n_9:Int)(b_10:Bool)(l_11:List D)(n_12 n_13:Int)(l_14:List V):rk Tryz.prog aE (.at_ 165 0 [false,true,false,true,true,false,false,true,true,false,false,true,false,true,true] (sv 68 [(1,vl b_0 l_1),(5,.m 0 0 m_2),(6,vi n_3),(7,.d (.i .u32 n_4)),(8,vu n_5),(18,vl b_6 l_7),(19,vi n_8),(20,vi n_9),(25,vl b_10 l_11),(26,vi n_12),(27,vi n_13)]) [] [.cells l_14 []])=aC (rk Tryz.prog aE) (aT (decide (n_13<n_12)) (eC l_11 n_13 1 0 fun a=>bD .u32 a fun b=>aM (decide (0<=IntKind.i64.wrap (n_3+n_13)/\IntKind.i64.wrap (n_3+n_13)<(m_2:Int))) (ob l_14[0+(IntKind.i64.wrap (n_3+n_13)).toNat]? fun c=>aW c fun e=>bD .u32 e fun f=>aM (decide (0<=IntKind.i64.wrap (n_3+n_13)/\IntKind.i64.wrap (n_3+n_13)<(m_2:Int))) (aM (decide (0+(IntKind.i64.wrap (n_3+n_13)).toNat<l_14.length)&&true) (.call (.at_ 165 0 [false,true,false,true,true,false,false,true,true,false,false,true,false,true,true] (sv 68 [(1,vl b_0 l_1),(5,.m 0 0 m_2),(6,vi n_3),(7,.d (.i .u32 n_4)),(8,vu ((IntKind.u64.wrap (n_5+IntKind.u64.wrap (IntKind.u64.wrap (IntKind.u64.wrap n_4*IntKind.u64.wrap b)+IntKind.u64.wrap f))).fdiv 4294967296)),(18,vl b_6 l_7),(19,vi n_8),(20,vi n_9),(25,vl b_10 l_11),(26,vi n_12),(27,vi (IntKind.i64.wrap (n_13+1)))]) [] [.cells (l_14.set (0+(IntKind.i64.wrap (n_3+n_13)).toNat) (.d (.i .u32 (IntKind.u32.wrap (IntKind.u64.wrap (n_5+IntKind.u64.wrap (IntKind.u64.wrap (IntKind.u64.wrap n_4*IntKind.u64.wrap b)+IntKind.u64.wrap f))))))) []]) .ret)))) (aM (decide (0<=IntKind.i64.wrap (n_3+(l_1.length:Int))/\IntKind.i64.wrap (n_3+(l_1.length:Int))<(m_2:Int))) (aM (decide (0+(IntKind.i64.wrap (n_3+(l_1.length:Int))).toNat<l_14.length)&&true) (.call (.at_ 165 0 [false,true,false,true,true] (sv 68 [(1,vl b_0 l_1),(5,.m 0 0 m_2),(18,vl b_6 l_7),(19,vi n_8),(20,vi (IntKind.i64.wrap (n_9+1)))]) [] [.cells (l_14.set (0+(IntKind.i64.wrap (n_3+(l_1.length:Int))).toNat) (.d (.i .u32 (IntKind.u32.wrap n_5)))) []]) .ret)))):=
 aF (by kernel_rfl)
theorem uu(b_0:Bool)(l_1:List D)(b_2:Bool)(l_3:List D)(n_4:Int)(b_5:Bool)(l_6:List D)(n_7 n_8:Int):rk Tryz.prog aE (.at_ 199 0 [false,true,false,true,true,true,true] (sv 56 [(1,vl b_0 l_1),(5,vl b_2 l_3),(6,vu n_4),(20,vl b_5 l_6),(21,vi n_7),(22,vi n_8)]) [(5,1)] [])=aC (rk Tryz.prog aE) (aT (decide (n_8<n_7)) (eC l_6 n_8 1 0 fun a=>bD .u32 a fun b=>aT (decide (n_8<(l_1.length:Int))) (eC l_1 n_8 1 0 fun c=>bD .u32 c fun e => .call (.at_ 199 0 [true,true,true,false,false,true,true,false,false,true,false,true,true,true,true] (sv 56 [(1,vl b_0 l_1),(5,vl b_2 l_3),(6,vu (IntKind.u64.wrap (IntKind.u64.wrap (n_4+IntKind.u64.wrap b)+IntKind.u64.wrap e))),(20,vl b_5 l_6),(21,vi n_7),(22,vi n_8)]) [(5,1)] []) .ret) (.call (.at_ 199 0 [true,true,true,false,false,true,true,false,false,true,false,true,true,true,true] (sv 56 [(1,vl b_0 l_1),(5,vl b_2 l_3),(6,vu (IntKind.u64.wrap (n_4+IntKind.u64.wrap b))),(20,vl b_5 l_6),(21,vi n_7),(22,vi n_8)]) [(5,1)] []) .ret)) (aM (bw 1 l_3) (aM (b_2||true) (aM (decide (l_3.length+1<=4294967296)) (cV (.call 162 [vl (b_2&&false) (l_3++[.i .u32 (IntKind.u32.wrap n_4)])] []) fun f=>aL f fun g h => .ret (vl g h,[])))))):=
 aF (by kernel_rfl)
theorem qm(b_0:Bool)(l_1:List D)(b_2:Bool)(l_3:List D)(m_4:Nat)(b_5:Bool)(l_6:List D)(n_7:Int)(l_8:List V):rk Tryz.prog aE (.at_ 198 0 [true,true,false,false,true,false,false,true,false,true,true,true,true] (sv 64 [(0,vl b_0 l_1),(1,vl b_2 l_3),(4,.m 0 0 m_4),(5,vl b_5 l_6),(7,vi n_7)]) [] [.cells l_8 []])=aC (rk Tryz.prog aE) (cV (.call 218 [vl b_5 l_6,vl b_2 l_3] []) fun a=>dY a fun c=>aM (c.length==2) (aW (c.getD 0 (vb false)) fun e=>dZ e fun f g=>aW (c.getD 1 (vb false)) fun h=>dQ h fun j=>aT j (aM (decide (0<=IntKind.i64.wrap (n_7.tdiv 32)/\IntKind.i64.wrap (n_7.tdiv 32)<(m_4:Int))) (ob l_8[0+(IntKind.i64.wrap (n_7.tdiv 32)).toNat]? fun k=>aW k fun n=>bD .u32 n fun o=>aM (decide (0<=n_7.tmod 32)) (aM (decide (0<=IntKind.i64.wrap (n_7.tdiv 32)/\IntKind.i64.wrap (n_7.tdiv 32)<(m_4:Int))) (aM (decide (0+(IntKind.i64.wrap (n_7.tdiv 32)).toNat<l_8.length)&&true) (.call (.at_ 198 0 [false,true,false,true,true,true,true] (sv 64 [(0,vl b_0 l_1),(1,vl b_2 l_3),(4,.m 0 0 m_4),(5,vl f g),(7,vi (IntKind.i64.wrap (n_7-1)))]) [] [.cells (l_8.set (0+(IntKind.i64.wrap (n_7.tdiv 32)).toNat) (.d (.i .u32 (IntKind.u32.wrap ((BitVec.ofInt IntKind.u32.bits o ||| BitVec.ofInt IntKind.u32.bits (IntKind.u32.wrap (1*2^min (n_7.tmod 32).toNat 32))).toNat:Int))))) []]) .ret))))) (.call (.at_ 198 0 [false,true,false,true,true,true,true] (sv 64 [(0,vl b_0 l_1),(1,vl b_2 l_3),(4,.m 0 0 m_4),(5,vl b_5 l_6),(7,vi (IntKind.i64.wrap (n_7-1)))]) [] [.cells l_8 []]) .ret))):=
 aF (by kernel_rfl)
theorem x5(b_0:Bool)(l_1:List D)(b_2:Bool)(l_3:List D)(n_4:Int)(b_5:Bool)(l_6:List D)(n_7 n_8:Int):rk Tryz.prog aE (.at_ 199 0 [true,true,true,false,false,true,true,false,false,true,false,true,true,true,true] (sv 56 [(1,vl b_0 l_1),(5,vl b_2 l_3),(6,vu n_4),(20,vl b_5 l_6),(21,vi n_7),(22,vi n_8)]) [(5,1)] [])=aC (rk Tryz.prog aE) (aM (bw 1 l_3) (aM (b_2||true) (aM (decide (l_3.length+1<=4294967296)) (.call (.at_ 199 0 [false,true,false,true,true,true,true] (sv 56 [(1,vl b_0 l_1),(5,vl (b_2&&false) (l_3++[.i .u32 (IntKind.u32.wrap n_4)])),(6,vu (n_4.fdiv 4294967296)),(20,vl b_5 l_6),(21,vi n_7),(22,vi (IntKind.i64.wrap (n_8+1)))]) [(5,1)] []) .ret)))):=
 aF (by kernel_rfl)
theorem qn(b_0:Bool)(l_1:List D)(b_2:Bool)(l_3:List D)(m_4:Nat)(b_5:Bool)(l_6:List D)(n_7:Int)(l_8:List V):rk Tryz.prog aE (.at_ 198 0 [false,true,false,true,true,true,true] (sv 64 [(0,vl b_0 l_1),(1,vl b_2 l_3),(4,.m 0 0 m_4),(5,vl b_5 l_6),(7,vi n_7)]) [] [.cells l_8 []])=aC (rk Tryz.prog aE) (aT (decide (n_7 ≥ 0)) (cV (.call 161 [vl b_5 l_6,vi 1] []) fun a=>aL a fun c e=>eC l_1 (IntKind.i64.wrap (n_7.tdiv 32)) 1 0 fun f=>bD .u32 f fun g=>aM (decide (0<=n_7.tmod 32)) (aT (IntKind.u32.wrap ((BitVec.ofInt IntKind.u32.bits (g.fdiv (2^min (n_7.tmod 32).toNat 32)) &&& BitVec.ofInt IntKind.u32.bits 1).toNat:Int) != 0) (cV (.call 160 [vu 1] []) fun h=>aL h fun j k=>cV (.call 199 [vl c e,vl j k] []) fun n=>aL n fun o p => .call (.at_ 198 0 [true,true,false,false,true,false,false,true,false,true,true,true,true] (sv 64 [(0,vl b_0 l_1),(1,vl b_2 l_3),(4,.m 0 0 m_4),(5,vl o p),(7,vi n_7)]) [] [.cells l_8 []]) .ret) (.call (.at_ 198 0 [true,true,false,false,true,false,false,true,false,true,true,true,true] (sv 64 [(0,vl b_0 l_1),(1,vl b_2 l_3),(4,.m 0 0 m_4),(5,vl c e),(7,vi n_7)]) [] [.cells l_8 []]) .ret))) (c1 (.call 162 [.m 0 0 m_4] [.cells l_8 []]) l_8.length [] fun q r=>aL q fun s zu=>cV (.call 162 [vl b_5 l_6] []) fun v=>aL v fun w x => .ret (.t [vl s zu,vl w x,vb true],[]))):=
 aF (by kernel_rfl)
end Go.Dn.Dec
namespace Go.Dn.Dec
open Go.Proofs
def cellsOf(a:List Int):List V:=(ints .u32 a).map V.d
theorem o6:∀l:List D,ti (l.map V.d)=some l
 | []=>rfl
 |d::l=>by simp[ti,Ij,o6 l]
theorem dp(a:List Int):(cellsOf a).length=a.length:=by simp[cellsOf]
theorem cw(a:List Int)(i:Nat):(cellsOf a)[i]?=a[i]?.map fun z=>V.d (.i .u32 z):=by simp[cellsOf];rfl
theorem gN(a:List Int)(n:Nat)(h:n<=a.length):dw [Ob.cells (cellsOf a) []] 1 (V.m 0 0 n)=some (ints .u32 (a.take n)):=by
 simp only[dw,view,bE,List.length_nil,if_true]
 rw[if_pos (by rw[dp];omega)]
 simp only[List.drop_zero,cellsOf,<-List.map_take,jU,o6]
theorem fi(k:IntKind)(a:List Int):(ints k a).isEmpty=a.isEmpty:=by cases a<;>rfl
theorem kR{a:List Int}{n:Nat}(h:aK n=a):nl n = .l a.isEmpty (ints .u32 a):=by
 unfold nl
 rw[h]
 congr 1
 cases a with
 |nil=>simp[(dJ n).1 h]
 |cons z a=>
  have:n≠0:=fun e=>by rw[(dJ n).2 e]at h;cases h
  simp[this]
theorem fP{a:List Int}(ha:cP a){n:Nat}(hn:n<a.length)(hz:a[n]≠0):aK (aN (a.take (n+1)))=a.take (n+1):=by
 refine C8 (ha.take _) fun z hz'=>?_
 rw[List.getLast?_eq_getElem?,List.length_take,Nat.min_eq_left (by omega),List.getElem?_take_of_lt (by omega),Nat.add_sub_cancel,List.getElem?_eq_getElem hn]at hz'
 injection hz' with hz';rw[<-hz'];exact hz
theorem xC(b:Bool)(a:List Int)(ha:cP a)(hb:a.length<=1000000):∀n:Nat,n<=a.length->aN (a.take n)=aN a->
  rk Tryz.prog aE (Task.at_ 162 0 [false,false,true,true] (sv 22 [(0,V.d (D.l b (ints .u32 a))),(3,V.d (D.i .i64 (n:Int)))]) [] [])=some (.d (nl (aN a)),[])
 |0,hn,hv=>by
  rw[x6]
  have h0:aN a=0:=by rw[<-hv];rfl
  have e:nl (aN a) = .l true []:=by rw[h0];exact kR bF
  simp[pG,e]
 |n+1,hn,hv=>by
  rw[x6]
  have hx:n<a.length:=by omega
  have gx:=List.getElem?_eq_getElem hx
  have hp:(0:Int)<(n:Int)+1:=by omega
  have hw:IntKind.i64.wrap (n:Int)=(n:Int):=by rw[wrap_i64]<;>omega
  have hl:n+1<=4294967296:=by omega
  by_cases h0:a[n]=0
  ·have ih:=xC b a ha hb n (by omega) (by rw[<-hv];exact(dL a n (by rw[gx,h0])).symm)
   simp[hp,hw,gx,h0,pG,ih]
  ·have e:nl (aN a) = .l (a.take (n+1)).isEmpty (ints .u32 (a.take (n+1))):=by rw[<-hv];exact kR (fP ha hx h0)
   have hle:(n:Int)+1<=(a.length:Int):=by omega
   have hp2:(0:Int)<=(n:Int)+1:=by omega
   have ht:((n:Int)+1).toNat=n+1:=by omega
   have hl2:n+1<=a.length:=by omega
   simp[hp,hw,gx,h0,pG,hle,hp2,ht,jU,hl,e,fi,hl2]
theorem og(b:Bool)(a:List Int)(ha:cP a)(hb:a.length<=1000000):rk Tryz.prog aE (Task.call 162 [V.d (D.l b (ints .u32 a))] [])=some (.d (nl (aN a)),[]):=by
 rw[f51]
 simp[xC b a ha hb a.length (Nat.le_refl _) (by rw[List.take_length])]
theorem ub(a:List Int)(ha:cP a)(hb:a.length<=1000000):∀n:Nat,n<=a.length->aN (a.take n)=aN a->
  rk Tryz.prog aE (Task.at_ 162 1 [false,false,true,true] (sv 22 [(0,V.m 0 0 a.length),(3,V.d (D.i .i64 (n:Int)))]) [] [Ob.cells (cellsOf a) []])=some (.d (nl (aN a)),[Ob.cells (cellsOf a) []])
 |0,hn,hv=>by
  rw[r8]
  have h0:aN a=0:=by rw[<-hv];rfl
  have e:nl (aN a) = .l true []:=by rw[h0];exact kR bF
  have hv0:=gN a 0 (by omega)
  simp[jg,e,hv0,ints]
 |n+1,hn,hv=>by
  rw[r8]
  have hx:n<a.length:=by omega
  have gx:=List.getElem?_eq_getElem hx
  have hp:(0:Int)<(n:Int)+1:=by omega
  have hw:IntKind.i64.wrap (n:Int)=(n:Int):=by rw[wrap_i64]<;>omega
  have hl:n+1<=4294967296:=by omega
  have hni:(n:Int)<(a.length:Int):=by omega
  by_cases h0:a[n]=0
  ·have ih:=ub a ha hb n (by omega) (by rw[<-hv];exact(dL a n (by rw[gx,h0])).symm)
   simp[hp,hw,hni,cw,gx,h0,jg,ih]
  ·have e:nl (aN a) = .l (a.take (n+1)).isEmpty (ints .u32 (a.take (n+1))):=by rw[<-hv];exact kR (fP ha hx h0)
   have hle:(n:Int)+1<=(a.length:Int):=by omega
   have hp2:(0:Int)<=(n:Int)+1:=by omega
   have ht:((n:Int)+1).toNat=n+1:=by omega
   have hl2:n+1<=a.length:=by omega
   have hv1:=gN a (n+1) hl2
   simp[hp,hw,hni,cw,gx,h0,jg,hle,hp2,ht,hv1,hl,e,fi,hl2]
theorem xE(a:List Int)(ha:cP a)(hb:a.length<=1000000):rk Tryz.prog aE (Task.call 162 [V.m 0 0 a.length] [Ob.cells (cellsOf a) []])=some (.d (nl (aN a)),[Ob.cells (cellsOf a) []]):=by
 rw[LD]
 simp[ub a ha hb a.length (Nat.le_refl _) (by rw[List.take_length])]
end Go.Dn.Dec
namespace Go.Dn.Dec
open Go.Proofs
theorem ct(n:Int):IntKind.u32.wrap n=n%4294967296:=by
 have e:((2:Int)^IntKind.u32.bits)=4294967296:=by decide
 simp[IntKind.wrap,IntKind.signed,e]
theorem aO(n:Int):IntKind.u64.wrap n=n%18446744073709551616:=by
 have e:((2:Int)^IntKind.u64.bits)=18446744073709551616:=by decide
 simp[IntKind.wrap,IntKind.signed,e]
theorem ko(n:Nat):((n:Int)).fdiv 4294967296=((n / W:Nat):Int):=by
 rw[Int.fdiv_eq_ediv_of_nonneg _ (by decide)];unfold W;omega
theorem oC(n:Nat):(n:Int)%4294967296=((n%W:Nat):Int):=by unfold W;omega
theorem cT{n:Nat}(h:n<18446744073709551616):(n:Int)%18446744073709551616=(n:Int):=by omega
theorem kv{n:Nat}(h:n<4294967296):(n:Int)%4294967296=(n:Int):=by omega
theorem of_run(n:Nat)(h:n<18446744073709551616):rk Tryz.prog aE (Task.call 160 [V.d (D.i .u64 (n:Int))] [])=some (.d (nl n),[]):=by
 rw[f23]
 have e:[D.i IntKind.u32 (IntKind.u32.wrap n),D.i IntKind.u32 (IntKind.u32.wrap ((n:Int).fdiv 4294967296))]=ints .u32 [((n%W:Nat):Int),((n / W:Nat):Int)]:=by
  rw[ct,ct,ko,oC,kv (by unfold W;omega)];rfl
 have hv:aN [((n%W:Nat):Int),((n / W:Nat):Int)]=n:=by
  simp only[aN,Int.toNat_natCast]
  have:=Nat.mod_add_div n W;omega
 have hu:cP [((n%W:Nat):Int),((n / W:Nat):Int)]:=by
  intro z hz
  have h1:=Nat.mod_lt n ft
  have h2:n / W<4294967296:=by unfold W;omega
  unfold W at *
  simp at hz
  rcases hz with rfl|rfl<;>omega
 have hc:=og true _ hu (by simp)
 rw[hv]at hc
 rw[e]
 generalize ints .u32 [((n%W:Nat):Int),((n / W:Nat):Int)]=L at hc⊢
 simp[hc,nl]
theorem iC{a:List Int}{i:Nat}(h:i<a.length):aN (a.drop i)=a[i].toNat+W*aN (a.drop (i+1)):=by
 rw[List.drop_eq_getElem_cons h,aN]
theorem cP.get{a:List Int}(h:cP a){i:Nat}(hi:i<a.length):∃x:Nat,a[i]=(x:Int)/\x<4294967296:=by
 have:=h _ (List.getElem_mem hi)
 exact⟨a[i].toNat,by omega,by omega⟩
theorem cP.snoc{a:List Int}(h:cP a){n:Nat}(hn:n<4294967296):cP (a++[(n:Int)]):=h.append fun z hz=>by simp at hz;omega
theorem Js{x y:Nat}(hx:x<4294967296)(hy:y<4294967296):x*y<=18446744065119617025:=by
 have:=Nat.mul_le_mul (show x<=4294967295 by omega) (show y<=4294967295 by omega)
 omega
theorem Bk(y:Nat)(hy:y<4294967296)(b:Bool)(a:List Int)(ha:cP a)(hb:a.length<=100000):∀(d i:Nat) (b1:Bool) (out:List Int) (c:Nat),i+d=a.length->cP out->out.length=i->c<4294967296->
  rk Tryz.prog aE (Task.at_ 196 0 [false,true,false,true,true,true]
   (sv 40 [(1,V.d (D.i .u32 (y:Int))),(5,V.d (D.l b1 (ints .u32 out))),(6,V.d (D.i .u64 (c:Int))),(13,V.d (D.l b (ints .u32 a))),(14,V.d (D.i .i64 (a.length:Int))),(15,V.d (D.i .i64 (i:Int)))]) [(5,1)] [])=
  some (.d (nl (aN out+W^i*(c+aN (a.drop i)*y))),[]):=by
 intro d
 induction d with
 |zero=>
  intro i b1 out c hi hu hl hc
  rw[x7]
  have h3:¬((i:Int)<(a.length:Int)):=by omega
  have hd:a.drop i=[]:=List.drop_eq_nil_of_le (by omega)
  have hw:IntKind.u32.wrap (c:Int)=(c:Int):=by rw[ct,kv hc]
  have hcut:=og false (out++[(c:Int)]) (hu.snoc hc) (by simp;omega)
  have hv:aN (out++[(c:Int)])=aN out+W^i*(c+aN (a.drop i)*y):=by
   rw[cU,hl,hd];simp[aN]
  rw[hv]at hcut
  have hlen:i<=4294967295:=by omega
  simp[h3,hw,hl,hlen,fX,hcut,nl,mj]
 |succ d ih=>
  intro i b1 out c hi hu hl hc
  rw[x7]
  have hx:i<a.length:=by omega
  have gx:=List.getElem?_eq_getElem hx
  obtain⟨x,ex,hx32⟩:=ha.get hx
  have h3:((i:Int)<(a.length:Int)):=by omega
  have hlen:i<=4294967295:=by omega
  have hm:=Js hx32 hy
  have hw1:IntKind.u64.wrap ((c:Int)+IntKind.u64.wrap (IntKind.u64.wrap (x:Int)*IntKind.u64.wrap (y:Int)))=((c+x*y:Nat):Int):=by
   rw[aO (x:Int),aO (y:Int),cT (by omega),cT (by omega),<-Int.natCast_mul,aO ((x*y:Nat):Int),cT (by omega),<-Int.natCast_add,aO,cT (by omega)]
  have hw2:IntKind.u32.wrap ((c+x*y:Nat):Int)=(((c+x*y)%W:Nat):Int):=by rw[ct,oC]
  have hw3:((c+x*y:Nat):Int).fdiv 4294967296=(((c+x*y) / W:Nat):Int):=ko _
  have hw:IntKind.i64.wrap ((i:Int)+1)=((i+1:Nat):Int):=by rw[wrap_i64]<;>omega
  have hmod:(c+x*y)%W<4294967296:=Nat.mod_lt _ ft
  have hdiv:(c+x*y) / W<4294967296:=by unfold W;omega
  have ih':=ih (i+1) false (out++[(((c+x*y)%W:Nat):Int)]) ((c+x*y) / W) (by omega) (hu.snoc hmod) (by simp[hl]) hdiv
  have hval:aN (out++[(((c+x*y)%W:Nat):Int)])+W^(i+1)*((c+x*y) / W+aN (a.drop (i+1))*y)=aN out+W^i*(c+aN (a.drop i)*y):=by
   rw[cU,hl,iC hx,ex]
   simp only[aN,Int.toNat_natCast,Nat.mul_zero,Nat.add_zero]
   rw[Nat.pow_succ,Nat.add_assoc,Nat.mul_assoc,<-Nat.mul_add]
   congr 2
   have:=Nat.mod_add_div (c+x*y) W
   rw[Nat.mul_add,<-Nat.add_assoc,this,Nat.add_mul,Nat.mul_assoc,Nat.add_assoc]
  rw[hval]at ih'
  rw[<-fX]at ih'
  generalize hT:(c+x*y:Nat)=T at hw1 hw2 hw3 ih'
  simp only[aP,h3,decide_true,if_true,bJ,aR,bl,bp,dC,gx,ex,Option.map_some,Option.bind_some,iw,ik,beq_self_eq_true,av,Bool.or_true,cC,hl,Bool.and_false,hw1,hw2,hw3,hw,Int.toNat_natCast,List.getElem?_cons_zero,aA]
  rw[if_pos (by simpa using hlen)]
  exact ih'
theorem DZ(y:Nat)(hy:y<4294967296)(b:Bool)(x:Nat)(hx:(aK x).length<=100000):rk Tryz.prog aE (Task.call 196 [V.d (D.l b (ints .u32 (aK x))),V.d (D.i .u32 (y:Int))] [])=some (.d (nl (x*y)),[]):=by
 rw[f52]
 have h:=Bk y hy b (aK x) (cd x) hx (aK x).length 0 false [] 0 (by omega) cP.nil rfl (by omega)
 rw[Int.natCast_zero,yi]at h
 simp only[aN,Nat.pow_zero,Nat.one_mul,Nat.zero_add,List.drop_zero,bY]at h
 have hw:IntKind.i64.wrap (((aK x).length:Int)+1)=((aK x).length:Int)+1:=by rw[wrap_i64]<;>omega
 have h1:(0:Int)<=((aK x).length:Int)+1:=by omega
 have h2:((aK x).length:Int)+1<=4294967296:=by omega
 simp only[cC,hw,aR,decide_eq_true h1,decide_eq_true h2,if_true,aA]
 exact h
end Go.Dn.Dec
namespace Go.Dn.Dec
open Go.Proofs
def ws(n:Nat):List D:=ints .u32 (aK n)
def nb(n:Nat):Bool:=decide (n=0)
theorem jG(n:Nat):nl n = .l (nb n) (ws n):=rfl
@[simp] theorem cM(n:Nat):(ws n).length=(aK n).length:=by simp[ws]
@[simp] theorem Lg(n:Nat):bw 1 (ws n)=true:=by simp[ws]
theorem o9:ws 0=[]:=by simp[ws,bF,ints]
theorem HA:nb 0=true:=rfl
def Fits(n:Nat):Prop:=n<W^10000
theorem uL{n k:Nat}(h:n<W^k):(aK n).length<=k:=by
 induction k generalizing n with
 |zero=>
  have:n=0:=by simpa using h
  rw[this,bF];simp
 |succ k ih=>
  by_cases h0:n=0
  ·rw[h0,bF];simp
  ·rw[dA h0,List.length_cons]
   have:n / W<W^k:=by
    rw[Nat.pow_succ]at h
    exact Nat.div_lt_of_lt_mul (by rw[Nat.mul_comm];exact h)
   have:=ih this;omega
theorem Fits.len{n:Nat}(h:Fits n):(aK n).length<=10000:=uL h
theorem Fits.le{m n:Nat}(h:Fits n)(hm:m<=n):Fits m:=Nat.lt_of_le_of_lt hm h
theorem yK(n:Nat)(h:n<18446744073709551616):rk Tryz.prog aE (Task.call 160 [V.d (D.i .u64 (n:Int))] [])=some (.d (.l (nb n) (ws n)),[]):=of_run n h
theorem Gl(y:Nat)(hy:y<4294967296)(b:Bool)(x:Nat)(hx:Fits x):rk Tryz.prog aE (Task.call 196 [V.d (D.l b (ws x)),V.d (D.i .u32 (y:Int))] [])=some (.d (.l (nb (x*y)) (ws (x*y))),[]):=
 DZ y hy b x (by have:=hx.len;omega)
set_option exponentiation.threshold 400000 in
theorem ox{n:Nat}(h:n<10000):Fits (10^n):=
 Nat.lt_of_le_of_lt (Nat.pow_le_pow_left (show 10<=W by decide) n) (Nat.pow_lt_pow_right (by decide) h)
theorem zH:∀(k:Nat) (v:Nat),Fits (v*10^k)->k<=1000->
  rk Tryz.prog aE (Task.at_ 166 0 [false,false,true,true,true] (sv 18 [(0,V.d (D.i .i64 (k:Int))),(3,V.d (D.l (nb v) (ws v)))]) [] [])=some (.d (.l (nb (v*10^k)) (ws (v*10^k))),[])
 |0,v,hv,hk=>by
  rw[xU]
  simp
 |k+1,v,hv,hk=>by
  rw[xU]
  have hle:v<=v*10^(k+1):=Nat.le_mul_of_pos_right _ (Nat.pow_pos (by decide))
  have ht:rk Tryz.prog aE (Task.call 196 [V.d (D.l (nb v) (ws v)),V.d (D.i .u32 10)] [])=some (.d (.l (nb (v*10)) (ws (v*10))),[]):=Gl 10 (by decide) (nb v) v (hv.le hle)
  have e:v*10*10^k=v*10^(k+1):=by rw[Nat.pow_succ,Nat.mul_assoc,Nat.mul_comm 10]
  have ih:=zH k (v*10) (by rw[e];exact hv) (by omega)
  have hp:(0:Int)<(k:Int)+1:=by omega
  have hw:IntKind.i64.wrap (k:Int)=(k:Int):=by rw[wrap_i64]<;>omega
  rw[e]at ih
  simp[hp,hw,ht,ih]
theorem Gh(n:Nat)(hn:n<=1000):rk Tryz.prog aE (Task.call 166 [V.d (D.i .i64 (n:Int))] [])=some (.d (.l (nb (10^n)) (ws (10^n))),[]):=by
 rw[f25]
 have h1:rk Tryz.prog aE (Task.call 160 [V.d (D.i .u64 1)] [])=some (.d (.l (nb 1) (ws 1)),[]):=yK 1 (by decide)
 have h2:=zH n 1 (by rw[Nat.one_mul];exact ox (by omega)) hn
 rw[Nat.one_mul]at h2
 have hc1:¬((n:Int)<0):=by omega
 have hc2:¬((1000:Int)<(n:Int)):=by omega
 simp[hc1,hc2,EN,h1,h2]
end Go.Dn.Dec
namespace Go.Dn.Dec
open Go.Proofs
theorem jn:∀(l:List Int) (j:Nat) (z:Int) (h:j<l.length),aN (l.set j z)+W^j*l[j].toNat=aN l+W^j*z.toNat
 | [],j,z,h=>by simp at h
 |x::l,0,z,h=>by simp[aN];omega
 |x::l,j+1,z,h=>by
  have ih:=jn l j z (by simpa using h)
  simp only[List.set_cons_succ,aN,List.getElem_cons_succ]
  rw[Nat.pow_succ,Nat.mul_comm (W^j) W,Nat.mul_assoc,Nat.mul_assoc,Nat.add_assoc,<-Nat.mul_add,ih,Nat.mul_add,Nat.add_assoc]
theorem cP.set{a:List Int}(h:cP a)(j:Nat){n:Nat}(hn:n<4294967296):cP (a.set j (n:Int)):=fun z hz=>by
 rcases List.mem_or_eq_of_mem_set hz with hz|rfl
 ·exact h z hz
 ·omega
theorem ff(a:List Int)(j:Nat)(z:Int):(cellsOf a).set j (V.d (.i .u32 z))=cellsOf (a.set j z):=by
 simp[cellsOf,ints,List.map_set]
theorem vO{a:List Int}{j m:Nat}(h:∀k,m<=k->k<a.length->a[k]?=some 0)(hj:j<m)(z:Int):∀k,m<=k->k<(a.set j z).length->(a.set j z)[k]?=some 0:=by
 intro k hk hl
 rw[List.getElem?_set_ne (by omega)]
 exact h k hk (by simpa using hl)
def J6(by_ bx b2:Bool)(xs:List D)(y:List Int)(n i x:Nat)(c:Nat)(n8 n9:Int)(k:Nat)(out:List Int):Task:=
 Task.at_ 165 0 [false,true,false,true,true,false,false,true,true,false,false,true,false,true,true]
   (sv 68 [(1,V.d (D.l by_ (ints .u32 y))),(5,V.m 0 0 n),(6,V.d (D.i .i64 (i:Int))),(7,V.d (D.i .u32 (x:Int))),(8,V.d (D.i .u64 (c:Int))),(18,V.d (D.l bx xs)),(19,V.d (D.i .i64 n8)),(20,V.d (D.i .i64 n9)),(25,V.d (D.l b2 (ints .u32 y))),(26,V.d (D.i .i64 (y.length:Int))),(27,V.d (D.i .i64 (k:Int)))])
   [] [Ob.cells (cellsOf out) []]
theorem sE(x:Nat)(hx:x<4294967296)(bx by_ b2:Bool)(xs:List D)(y:List Int)(hy:cP y)(i n:Nat)(hn:i+y.length<n)(hyl:n<=1000000)(n8 n9:Int):
  ∀(d k:Nat) (c:Nat) (out:List Int),k+d=y.length->cP out->out.length=n->c<4294967296->(∀j,i+y.length<=j->j<out.length->out[j]?=some 0)->
  ∃(c':Nat) (out':List Int),cP out'/\out'.length=n/\c'<4294967296/\(∀j,i+y.length<=j->j<out'.length->out'[j]?=some 0)/\
   aN out'+W^(i+y.length)*c'=aN out+W^(i+k)*(c+x*aN (y.drop k))/\
   rk Tryz.prog aE (J6 by_ bx b2 xs y n i x c n8 n9 k out)=rk Tryz.prog aE (J6 by_ bx b2 xs y n i x c' n8 n9 y.length out'):=by
 intro d
 induction d with
 |zero=>
  intro k c out hk hu hl hc hz
  have hky:k=y.length:=by omega
  subst hky
  refine⟨c,out,hu,hl,hc,hz,?_,rfl⟩
  rw[List.drop_length];simp[aN]
 |succ d ih=>
  intro k c out hk hu hl hc hz
  have hky:k<y.length:=by omega
  have gy:=List.getElem?_eq_getElem hky
  obtain⟨w,ew,hw32⟩:=hy.get hky
  have hj:i+k<out.length:=by omega
  have gj:=List.getElem?_eq_getElem hj
  obtain⟨o,eo,ho32⟩:=hu.get hj
  have hm:=Js hx hw32
  have hT:c+(x*w+o)<18446744073709551616:=by omega
  have hmod:(c+(x*w+o))%W<4294967296:=Nat.mod_lt _ ft
  have hdiv:(c+(x*w+o)) / W<4294967296:=by unfold W;omega
  obtain⟨c',out',u1,u2,u3,u4,u5,u6⟩:=ih (k+1) ((c+(x*w+o)) / W) (out.set (i+k) (((c+(x*w+o))%W:Nat):Int)) (by omega) (hu.set _ hmod) (by simpa using hl) hdiv (vO hz (by omega) _)
  refine⟨c',out',u1,u2,u3,u4,?_,?_⟩
  ·rw[u5]
   have hs:=jn out (i+k) (((c+(x*w+o))%W:Nat):Int) hj
   rw[eo]at hs
   simp only[Int.toNat_natCast]at hs
   have hd:=Nat.mod_add_div (c+(x*w+o)) W
   rw[iC hky,ew]
   simp only[Int.toNat_natCast]
   have e1:W^(i+(k+1))*((c+(x*w+o)) / W+x*aN (y.drop (k+1)))=W^(i+k)*(W*((c+(x*w+o)) / W))+W^(i+k)*(W*(x*aN (y.drop (k+1)))):=by
    rw[show i+(k+1)=(i+k)+1 from rfl,Nat.pow_succ,Nat.mul_assoc,Nat.mul_add,Nat.mul_add]
   have e2:W^(i+k)*(c+x*(w+W*aN (y.drop (k+1))))=W^(i+k)*(c+x*w)+W^(i+k)*(W*(x*aN (y.drop (k+1)))):=by
    rw[<-Nat.mul_add];congr 1
    rw[Nat.mul_add,<-Nat.add_assoc];congr 1
    rw[Nat.mul_left_comm]
   rw[e1,e2]
   have e3:W^(i+k)*((c+(x*w+o))%W)+W^(i+k)*(W*((c+(x*w+o)) / W))=W^(i+k)*(c+x*w)+W^(i+k)*o:=by
    rw[<-Nat.mul_add,hd,<-Nat.mul_add,Nat.add_assoc]
   omega
  ·rw[<-u6]
   unfold J6
   rw[qj]
   have h3:((k:Int)<(y.length:Int)):=by omega
   have hw1:IntKind.i64.wrap ((i:Int)+(k:Int))=((i+k:Nat):Int):=by rw[wrap_i64]<;>omega
   have hw2:IntKind.i64.wrap ((k:Int)+1)=((k+1:Nat):Int):=by rw[wrap_i64]<;>omega
   have hw3:IntKind.u64.wrap ((c:Int)+IntKind.u64.wrap (IntKind.u64.wrap (IntKind.u64.wrap (x:Int)*IntKind.u64.wrap (w:Int))+IntKind.u64.wrap (o:Int)))=((c+(x*w+o):Nat):Int):=by
    rw[aO (x:Int),aO (w:Int),aO (o:Int),cT (by omega),cT (by omega),cT (by omega),<-Int.natCast_mul,aO ((x*w:Nat):Int),cT (by omega),<-Int.natCast_add,aO ((x*w+o:Nat):Int),cT (by omega),<-Int.natCast_add,aO,cT hT]
   have hw4:IntKind.u32.wrap ((c+(x*w+o):Nat):Int)=(((c+(x*w+o))%W:Nat):Int):=by rw[ct,oC]
   have hw5:((c+(x*w+o):Nat):Int).fdiv 4294967296=(((c+(x*w+o)) / W:Nat):Int):=ko _
   generalize (c+(x*w+o):Nat)=T at hw3 hw4 hw5⊢
   have hb1:(0:Int)<=((i+k:Nat):Int)/\((i+k:Nat):Int)<(n:Int):=by omega
   have hb2:i+k<(cellsOf out).length:=by rw[dp];exact hj
   simp only[aP,h3,decide_true,if_true,bJ,aR,bl,bp,dC,gy,ew,Option.map_some,Option.bind_some,iw,ik,beq_self_eq_true,hw1,hw2,Int.toNat_natCast,List.getElem?_cons_zero,aA,hb1,and_self,Nat.zero_add,cw,gj,eo,bj,hw3,hw4,hw5,hb2,Bool.and_true,decide_eq_true_eq,ff]
def yN(by_ bx:Bool)(x y:List Int)(n i:Nat)(out:List Int):Task:=
 Task.at_ 165 0 [false,true,false,true,true] (sv 68 [(1,V.d (D.l by_ (ints .u32 y))),(5,V.m 0 0 n),(18,V.d (D.l bx (ints .u32 x))),(19,V.d (D.i .i64 (x.length:Int))),(20,V.d (D.i .i64 (i:Int)))]) [] [Ob.cells (cellsOf out) []]
theorem Hz(by_ bx:Bool)(x y:List Int)(hx:cP x)(hy:cP y)(n:Nat)(hn:n=x.length+y.length+1)(hb:n<=1000000)(i:Nat)(hi:i<x.length)(out:List Int)(hu:cP out)(hl:out.length=n)(hz:∀j,i+y.length<=j->j<out.length->out[j]?=some 0):
  ∃out',cP out'/\out'.length=n/\(∀j,(i+1)+y.length<=j->j<out'.length->out'[j]?=some 0)/\aN out'=aN out+W^i*(x[i].toNat*aN y)/\
   rk Tryz.prog aE (yN by_ bx x y n i out)=rk Tryz.prog aE (yN by_ bx x y n (i+1) out'):=by
 have gx:=List.getElem?_eq_getElem hi
 obtain⟨a,ea,ha32⟩:=hx.get hi
 obtain⟨c',o',u1,u2,u3,u4,u5,u6⟩:=sE a ha32 bx by_ by_ (ints .u32 x) y hy i n (by omega) hb (x.length:Int) (i:Int) y.length 0 0 out (by omega) hu hl (by decide) hz
 have hj:i+y.length<o'.length:=by omega
 refine⟨o'.set (i+y.length) (c':Int),u1.set _ u3,by simpa using u2,fun j h1 h2=>?_,?_,?_⟩
 ·rw[List.getElem?_set_ne (by omega)]
  exact u4 j (by omega) (by simpa using h2)
 ·have hs:=jn o' (i+y.length) (c':Int) hj
  have h0:o'[i+y.length]=0:=by
   have:=u4 (i+y.length) (Nat.le_refl _) hj
   rw[List.getElem?_eq_getElem hj]at this
   exact Option.some.inj this
  rw[h0]at hs
  simp only[Int.toNat_natCast,Int.toNat_zero,Nat.mul_zero,Nat.add_zero]at hs
  rw[hs,u5,List.drop_zero,Nat.add_zero,Nat.zero_add,ea,Int.toNat_natCast]
 ·have e1:rk Tryz.prog aE (yN by_ bx x y n i out)=rk Tryz.prog aE (J6 by_ bx by_ (ints .u32 x) y n i a 0 (x.length:Int) (i:Int) 0 out):=by
   unfold yN J6
   rw[xT]
   have h3:((i:Int)<(x.length:Int)):=by omega
   simp[h3,gx,ea]
  rw[e1,u6]
  unfold J6 yN
  rw[qj]
  have h3:¬((y.length:Int)<(y.length:Int)):=by omega
  have hw1:IntKind.i64.wrap ((i:Int)+(y.length:Int))=((i+y.length:Nat):Int):=by rw[wrap_i64]<;>omega
  have hw2:IntKind.i64.wrap ((i:Int)+1)=((i+1:Nat):Int):=by rw[wrap_i64]<;>omega
  have hw4:IntKind.u32.wrap (c':Int)=(c':Int):=by rw[ct,kv u3]
  have hb1:(0:Int)<=((i+y.length:Nat):Int)/\((i+y.length:Nat):Int)<(n:Int):=by omega
  have hb2:i+y.length<(cellsOf o').length:=by rw[dp];exact hj
  simp only[aP,h3,decide_false,Bool.false_eq_true,if_false,aR,cC,hw1,hw2,hw4,Int.toNat_natCast,aA,hb1,and_self,decide_true,if_true,Nat.zero_add,hb2,Bool.and_true,decide_eq_true_eq,ff]
theorem Dm(by_ bx:Bool)(x y:List Int)(hx:cP x)(hy:cP y)(n:Nat)(hn:n=x.length+y.length+1)(hb:n<=1000000):∀(d i:Nat) (out:List Int),i+d=x.length->cP out->out.length=n->(∀j,i+y.length<=j->j<out.length->out[j]?=some 0)->aN out=aN (x.take i)*aN y->
  rk Tryz.prog aE (yN by_ bx x y n i out)=some (.d (.l (nb (aN x*aN y)) (ws (aN x*aN y))),[]):=by
 intro d
 induction d with
 |zero=>
  intro i out hi hu hl hz hv
  have hix:i=x.length:=by omega
  subst hix
  rw[List.take_length]at hv
  unfold yN
  rw[xT]
  have h3:¬((x.length:Int)<(x.length:Int)):=by omega
  have hc:=xE out hu (by omega)
  rw[hl,hv,jG]at hc
  simp[hc]
 |succ d ih=>
  intro i out hi hu hl hz hv
  have hix:i<x.length:=by omega
  obtain⟨o',u1,u2,u3,u4,u5⟩:=Hz by_ bx x y hx hy n hn hb i hix out hu hl hz
  rw[u5]
  refine ih (i+1) o' (by omega) u1 u2 u3 ?_
  rw[u4,hv,List.take_add_one,List.getElem?_eq_getElem hix,cU]
  simp only[Option.toList_some,aN,Nat.mul_zero,Nat.add_zero,List.length_take,Nat.min_eq_left (Nat.le_of_lt hix)]
  rw[Nat.add_mul,Nat.mul_assoc]
theorem eG(n:Nat):aN (List.replicate n 0)=0:=by
 induction n with
 |zero=>rfl
 |succ n ih=>simp[List.replicate_succ,aN,ih]
theorem eF(n:Nat):List.replicate n (V.d (D.i .u32 0))=cellsOf (List.replicate n 0):=by simp[cellsOf,ints]
theorem Fj(b c:Bool)(x y:Nat)(hx:Fits x)(hy:Fits y):rk Tryz.prog aE (Task.call 165 [V.d (D.l b (ws x)),V.d (D.l c (ws y))] [])=some (.d (.l (nb (x*y)) (ws (x*y))),[]):=by
 rw[f24]
 have lx:=hx.len
 have ly:=hy.len
 have h:=Dm c b (aK x) (aK y) (cd x) (cd y) ((aK x).length+(aK y).length+1) rfl (by omega) (aK x).length 0 (List.replicate ((aK x).length+(aK y).length+1) 0) (by omega)
  (fun z hz=>by rw[List.mem_replicate]at hz;omega) (by simp) (fun j _ hj=>by simp at hj;simp[hj]) (by rw[eG];simp[aN])
 rw[bY,bY]at h
 unfold yN at h
 rw[<-eF,Int.natCast_zero]at h
 have hw1:IntKind.i64.wrap (((aK x).length:Int)+((aK y).length:Int))=(((aK x).length+(aK y).length:Nat):Int):=by rw[wrap_i64]<;>omega
 have hw2:IntKind.i64.wrap ((((aK x).length+(aK y).length:Nat):Int)+1)=(((aK x).length+(aK y).length+1:Nat):Int):=by rw[wrap_i64]<;>omega
 have c1:(0:Int)<=(((aK x).length+(aK y).length+1:Nat):Int):=by omega
 have c2:(((aK x).length+(aK y).length+1:Nat):Int)<=4294967296:=by omega
 simp only[cM,hw1,hw2,aR,decide_eq_true c1,decide_eq_true c2,decide_true,if_true,Int.toNat_natCast,aA]
 exact h
end Go.Dn.Dec
namespace Go.Dn.Dec
open Go.Proofs
theorem Eg(b_0 b_2 b_5:Bool)(y x:List Int)(out:List Int)(i:Nat)(T:Nat)(hl:out.length=i)(hi:i<=100000)(R:Option Out)
  (h:rk Tryz.prog aE (Task.at_ 199 0 [false,true,false,true,true,true,true]
   (sv 56 [(1,V.d (D.l b_0 (ints .u32 y))),(5,V.d (D.l false (ints .u32 (out++[((T%W:Nat):Int)])))),(6,V.d (D.i .u64 ((T / W:Nat):Int))),(20,V.d (D.l b_5 (ints .u32 x))),(21,V.d (D.i .i64 (x.length:Int))),(22,V.d (D.i .i64 ((i+1:Nat):Int)))]) [(5,1)] [])=R):
  rk Tryz.prog aE (Task.at_ 199 0 [true,true,true,false,false,true,true,false,false,true,false,true,true,true,true]
   (sv 56 [(1,V.d (D.l b_0 (ints .u32 y))),(5,V.d (D.l b_2 (ints .u32 out))),(6,V.d (D.i .u64 (T:Int))),(20,V.d (D.l b_5 (ints .u32 x))),(21,V.d (D.i .i64 (x.length:Int))),(22,V.d (D.i .i64 (i:Int)))]) [(5,1)] [])=R:=by
 rw[x5]
 have hw2:IntKind.u32.wrap (T:Int)=((T%W:Nat):Int):=by rw[ct,oC]
 have hw3:(T:Int).fdiv 4294967296=((T / W:Nat):Int):=ko _
 have hw:IntKind.i64.wrap ((i:Int)+1)=((i+1:Nat):Int):=by rw[wrap_i64]<;>omega
 have hle:out.length+1<=4294967296:=by omega
 simp only[av,aR,if_true,Bool.or_true,cC,decide_eq_true hle,hw2,hw3,hw,fX,Bool.and_false,aA]
 exact h
theorem Ee(b_0 b_5:Bool)(y x:List Int)(hx:cP x)(hy:cP y)(hb:x.length<=100000)(hyx:y.length<=x.length):∀(d i:Nat) (b1:Bool) (out:List Int) (c:Nat),i+d=x.length->cP out->out.length=i->c<4294967296->
  rk Tryz.prog aE (Task.at_ 199 0 [false,true,false,true,true,true,true]
   (sv 56 [(1,V.d (D.l b_0 (ints .u32 y))),(5,V.d (D.l b1 (ints .u32 out))),(6,V.d (D.i .u64 (c:Int))),(20,V.d (D.l b_5 (ints .u32 x))),(21,V.d (D.i .i64 (x.length:Int))),(22,V.d (D.i .i64 (i:Int)))]) [(5,1)] [])=
  some (.d (nl (aN out+W^i*(c+aN (x.drop i)+aN (y.drop i)))),[]):=by
 intro d
 induction d with
 |zero=>
  intro i b1 out c hi hu hl hc
  rw[uu]
  have h3:¬((i:Int)<(x.length:Int)):=by omega
  have hd:x.drop i=[]:=List.drop_eq_nil_of_le (by omega)
  have hd2:y.drop i=[]:=List.drop_eq_nil_of_le (by omega)
  have hw:IntKind.u32.wrap (c:Int)=(c:Int):=by rw[ct,kv hc]
  have hcut:=og false (out++[(c:Int)]) (hu.snoc hc) (by simp;omega)
  have hv:aN (out++[(c:Int)])=aN out+W^i*(c+aN (x.drop i)+aN (y.drop i)):=by
   rw[cU,hl,hd,hd2];simp[aN]
  rw[hv]at hcut
  have hlen:i<=4294967295:=by omega
  simp[h3,hw,hl,hlen,fX,hcut,nl]
 |succ d ih=>
  intro i b1 out c hi hu hl hc
  have hxi:i<x.length:=by omega
  have gx:=List.getElem?_eq_getElem hxi
  obtain⟨u,eu,hu32⟩:=hx.get hxi
  have h3:((i:Int)<(x.length:Int)):=by omega
  have hw1:IntKind.u64.wrap ((c:Int)+IntKind.u64.wrap (u:Int))=((c+u:Nat):Int):=by
   rw[aO (u:Int),cT (by omega),<-Int.natCast_add,aO,cT (by omega)]
  have key:∀T:Nat,T<18446744073709551616->(W^i*(T+W*(aN (x.drop (i+1))+aN (y.drop (i+1))))=W^i*(c+aN (x.drop i)+aN (y.drop i)))->
    rk Tryz.prog aE (Task.at_ 199 0 [true,true,true,false,false,true,true,false,false,true,false,true,true,true,true]
   (sv 56 [(1,V.d (D.l b_0 (ints .u32 y))),(5,V.d (D.l b1 (ints .u32 out))),(6,V.d (D.i .u64 (T:Int))),(20,V.d (D.l b_5 (ints .u32 x))),(21,V.d (D.i .i64 (x.length:Int))),(22,V.d (D.i .i64 (i:Int)))]) [(5,1)] [])=
   some (.d (nl (aN out+W^i*(c+aN (x.drop i)+aN (y.drop i)))),[]):=by
   intro T hT hv
   have hmod:T%W<4294967296:=Nat.mod_lt _ ft
   have hdiv:T / W<4294967296:=by unfold W;omega
   refine Eg b_0 b1 b_5 y x out i T hl (by omega) _ ?_
   rw[ih (i+1) false (out++[((T%W:Nat):Int)]) (T / W) (by omega) (hu.snoc hmod) (by simp[hl]) hdiv]
   congr 4
   rw[cU,hl,<-hv]
   simp only[aN,Int.toNat_natCast,Nat.mul_zero,Nat.add_zero]
   rw[Nat.pow_succ,Nat.add_assoc,Nat.mul_assoc,<-Nat.mul_add]
   congr 2
   have:=Nat.mod_add_div T W
   rw[Nat.add_assoc,Nat.mul_add,<-Nat.add_assoc,this]
  rw[uu]
  by_cases hyi:i<y.length
  ·have gy:=List.getElem?_eq_getElem hyi
   obtain⟨v,ev,hv32⟩:=hy.get hyi
   have h4:((i:Int)<(y.length:Int)):=by omega
   have hw2:IntKind.u64.wrap (((c+u:Nat):Int)+IntKind.u64.wrap (v:Int))=((c+u+v:Nat):Int):=by
    rw[aO (v:Int),cT (by omega),<-Int.natCast_add,aO,cT (by omega)]
   have hk:=key (c+u+v) (by omega) (by
    rw[iC hxi,iC hyi,eu,ev]
    simp only[Int.toNat_natCast]
    congr 1
    rw[Nat.mul_add];omega)
   generalize (c+u+v:Nat)=T at hw2 hk
   generalize (c+u:Nat)=T0 at hw1 hw2
   simp only[aP,h3,h4,decide_true,if_true,bJ,aR,bl,bp,dC,gx,gy,eu,ev,Option.map_some,Option.bind_some,iw,ik,beq_self_eq_true,cC,hw1,hw2,Int.toNat_natCast,List.getElem?_cons_zero,aA]
   exact hk
  ·have h4:¬((i:Int)<(y.length:Int)):=by omega
   have hk:=key (c+u) (by omega) (by
    rw[iC hxi,eu,List.drop_eq_nil_of_le (show y.length<=i by omega),List.drop_eq_nil_of_le (show y.length<=i+1 by omega)]
    simp only[Int.toNat_natCast,aN,Nat.add_zero]
    congr 1;omega)
   generalize (c+u:Nat)=T at hw1 hk
   simp only[aP,h3,h4,decide_true,decide_false,Bool.false_eq_true,if_true,if_false,bJ,aR,bl,bp,dC,gx,eu,Option.map_some,Option.bind_some,iw,ik,beq_self_eq_true,cC,hw1,Int.toNat_natCast,List.getElem?_cons_zero,aA]
   exact hk
theorem BA(b c:Bool)(x y:Nat)(hx:Fits x)(hyx:(aK y).length<=(aK x).length):
  rk Tryz.prog aE (Task.at_ 199 0 [true,true] (sv 56 [(0,V.d (D.l b (ws x))),(1,V.d (D.l c (ws y)))]) [] [])=some (.d (.l (nb (x+y)) (ws (x+y))),[]):=by
 rw[Hj]
 have lx:=hx.len
 have h:=Ee c b (aK y) (aK x) (cd x) (cd y) (by omega) hyx (aK x).length 0 false [] 0 (by omega) cP.nil rfl (by decide)
 simp only[aN,Nat.pow_zero,Nat.one_mul,Nat.zero_add,List.drop_zero,bY,yi,Int.natCast_zero]at h
 have hw:IntKind.i64.wrap (((aK x).length:Int)+1)=((aK x).length:Int)+1:=by rw[wrap_i64]<;>omega
 have h1:(0:Int)<=((aK x).length:Int)+1:=by omega
 have h2:((aK x).length:Int)+1<=4294967296:=by omega
 simp only[cM,hw,aR,decide_eq_true h1,decide_eq_true h2,if_true,aA]
 exact h
theorem z6(b c:Bool)(x y:Nat)(hx:Fits x)(hy:Fits y):rk Tryz.prog aE (Task.call 199 [V.d (D.l b (ws x)),V.d (D.l c (ws y))] [])=some (.d (.l (nb (x+y)) (ws (x+y))),[]):=by
 rw[f50]
 by_cases h:(aK x).length<(aK y).length
 ·have hi:((aK x).length:Int)<((aK y).length:Int):=by omega
  have:=BA c b y x hy (by omega)
  rw[Nat.add_comm]at this
  simp only[cM,aP,decide_eq_true hi,if_true,aA,this]
 ·have hi:¬((aK x).length:Int)<((aK y).length:Int):=by omega
  have:=BA b c x y hx (by omega)
  simp only[cM,aP,decide_eq_false hi,Bool.false_eq_true,if_false,aA,this]
end Go.Dn.Dec
namespace Go.Dn.Dec
open Go.Proofs
theorem mQ(b:Bool)(x:Nat)(hx:Fits x):rk Tryz.prog aE (Task.call 162 [V.d (D.l b (ws x))] [])=some (.d (.l (nb x) (ws x)),[]):=by
 have:=og b (aK x) (cd x) (by have:=hx.len;omega)
 rw[bY]at this;exact this
theorem jv{a b:Nat}(ha:a<18446744073709551616)(hb:b<18446744073709551616):((BitVec.ofInt 64 (a:Int) ||| BitVec.ofInt 64 (b:Int)).toNat)=a ||| b:=by
 rw[BitVec.toNat_or,BitVec.ofInt_natCast,BitVec.ofInt_natCast,BitVec.toNat_ofNat,BitVec.toNat_ofNat,Nat.mod_eq_of_lt (by simpa using ha),Nat.mod_eq_of_lt (by simpa using hb)]
theorem nD{c a k:Nat}(h:c<2^k):c ||| (a*2^k)=c+a*2^k:=by
 rw[Nat.or_comm,Nat.mul_comm a,<-Nat.two_pow_add_eq_or_of_lt h,Nat.add_comm]
theorem ia(n m:Nat):(n:Int).tmod (m:Int)=((n%m:Nat):Int):=(Int.ofNat_tmod n m).symm
theorem dH(n m:Nat):(n:Int).tdiv (m:Int)=((n / m:Nat):Int):=(Int.ofNat_tdiv n m).symm
theorem F2(n:Nat)(b:Bool)(x:List Int)(hx:cP x)(hb:x.length<=100000)(q:Nat)(hq:q<=500000):∀(d i:Nat) (b1:Bool) (out:List Int) (c:Nat),i+d=x.length->cP out->out.length=q+i->c<2^(n%32)->
  rk Tryz.prog aE (Task.at_ 161 0 [false,true,false,true,true,true,true,true]
   (sv 65 [(1,V.d (D.i .i64 (n:Int))),(5,V.d (D.l b1 (ints .u32 out))),(6,V.d (D.i .u64 (c:Int))),(38,V.d (D.l b (ints .u32 x))),(39,V.d (D.i .i64 (x.length:Int))),(40,V.d (D.i .i64 (i:Int)))]) [(5,1)] [])=
  some (.d (nl (aN out+W^(q+i)*(c+aN (x.drop i)*2^(n%32)))),[]):=by
 have hk:n%32<32:=Nat.mod_lt _ (by decide)
 have h2k:2^(n%32)<=2147483648:=Nat.le_trans (Nat.pow_le_pow_right (by decide) (show n%32<=31 by omega)) (by decide)
 have h2p:0<2^(n%32):=Nat.pow_pos (by decide)
 intro d
 induction d with
 |zero=>
  intro i b1 out c hi hu hl hc
  rw[uv]
  have h3:¬((i:Int)<(x.length:Int)):=by omega
  have hd:x.drop i=[]:=List.drop_eq_nil_of_le (by omega)
  have hc':c<4294967296:=by omega
  have hw:IntKind.u32.wrap (c:Int)=(c:Int):=by rw[ct,kv hc']
  have hcut:=og false (out++[(c:Int)]) (hu.snoc hc') (by simp;omega)
  have hv:aN (out++[(c:Int)])=aN out+W^(q+i)*(c+aN (x.drop i)*2^(n%32)):=by
   rw[cU,hl,hd];simp[aN]
  rw[hv]at hcut
  have hlen:q+i+1<=4294967296:=by omega
  simp only[aP,h3,decide_false,Bool.false_eq_true,if_false,aR,av,if_true,Bool.or_true,cC,hl,decide_eq_true hlen,hw,fX,Bool.and_false,aZ,hcut,Option.bind_some,List.isEmpty_nil]
  simp[nl]
 |succ d ih=>
  intro i b1 out c hi hu hl hc
  rw[uv]
  have hxi:i<x.length:=by omega
  have gx:=List.getElem?_eq_getElem hxi
  obtain⟨a,ea,ha32⟩:=hx.get hxi
  have h3:((i:Int)<(x.length:Int)):=by omega
  have hle:q+i+1<=4294967296:=by omega
  have hak:a*2^(n%32)<=4294967295*2147483648:=Nat.mul_le_mul (by omega) h2k
  have hm:(n:Int).tmod 32=((n%32:Nat):Int):=ia n 32
  have hmin:min (n%32) 64=n%32:=Nat.min_eq_left (by omega)
  have hw0:IntKind.u64.wrap (IntKind.u64.wrap (a:Int)*2^(n%32))=((a*2^(n%32):Nat):Int):=by
   rw[aO (a:Int),cT (by omega)]
   have:(a:Int)*2^(n%32)=((a*2^(n%32):Nat):Int):=by simp
   rw[this,aO,cT (by omega)]
  have hor:((BitVec.ofInt IntKind.u64.bits (c:Int) ||| BitVec.ofInt IntKind.u64.bits ((a*2^(n%32):Nat):Int)).toNat)=c+a*2^(n%32):=by
   have:=jv (a:=c) (b:=a*2^(n%32)) (by omega) (by omega)
   rw[nD hc]at this
   exact this
  have hw1:IntKind.u64.wrap ((c+a*2^(n%32):Nat):Int)=((c+a*2^(n%32):Nat):Int):=by rw[aO,cT (by omega)]
  have hw2:IntKind.u32.wrap ((c+a*2^(n%32):Nat):Int)=(((c+a*2^(n%32))%W:Nat):Int):=by rw[ct,oC]
  have hw3:((c+a*2^(n%32):Nat):Int).fdiv 4294967296=(((c+a*2^(n%32)) / W:Nat):Int):=ko _
  have hw:IntKind.i64.wrap ((i:Int)+1)=((i+1:Nat):Int):=by rw[wrap_i64]<;>omega
  have hmod:(c+a*2^(n%32))%W<4294967296:=Nat.mod_lt _ ft
  have hdiv:(c+a*2^(n%32)) / W<2^(n%32):=by
   apply Nat.div_lt_of_lt_mul
   have:a*2^(n%32)<=4294967295*2^(n%32):=Nat.mul_le_mul_right _ (by omega)
   unfold W;omega
  have ih':=ih (i+1) false (out++[(((c+a*2^(n%32))%W:Nat):Int)]) ((c+a*2^(n%32)) / W) (by omega) (hu.snoc hmod) (by simp[hl];omega) hdiv
  have hval:aN (out++[(((c+a*2^(n%32))%W:Nat):Int)])+W^(q+(i+1))*((c+a*2^(n%32)) / W+aN (x.drop (i+1))*2^(n%32))=aN out+W^(q+i)*(c+aN (x.drop i)*2^(n%32)):=by
   rw[cU,hl,iC hxi,ea]
   simp only[aN,Int.toNat_natCast,Nat.mul_zero,Nat.add_zero]
   rw[show q+(i+1)=(q+i)+1 from rfl,Nat.pow_succ,Nat.add_assoc,Nat.mul_assoc,<-Nat.mul_add]
   congr 2
   have:=Nat.mod_add_div (c+a*2^(n%32)) W
   rw[Nat.mul_add,<-Nat.add_assoc,this,Nat.add_mul,Nat.mul_assoc,Nat.add_assoc]
  rw[hval,<-fX]at ih'
  have hp:(0:Int)<=((n%32:Nat):Int):=by omega
  generalize (c+a*2^(n%32):Nat)=T at hor hw1 hw2 hw3 ih'
  simp only[aP,h3,decide_true,if_true,bJ,aR,bl,bp,dC,gx,ea,Option.map_some,Option.bind_some,iw,ik,beq_self_eq_true,av,Bool.or_true,cC,hl,decide_eq_true hle,Bool.and_false,hm,decide_eq_true hp,Int.toNat_natCast,hmin,hw0,hor,hw1,hw2,hw3,hw,List.getElem?_cons_zero,aA]
  exact ih'
theorem xo(q k:Nat):W^q*2^k=2^(32*q+k):=by
 have:W=2^32:=by decide
 rw[this,<-Nat.pow_mul,<-Nat.pow_add]
theorem so(n:Nat):List.replicate n (D.i .u32 0)=ints .u32 (List.replicate n 0):=by simp[ints]
theorem wR(b:Bool)(x n:Nat)(hx:Fits x)(hn:n<=1000000):rk Tryz.prog aE (Task.call 161 [V.d (D.l b (ws x)),V.d (D.i .i64 (n:Int))] [])=some (.d (.l (nb (x*2^n)) (ws (x*2^n))),[]):=by
 rw[f53]
 have lx:=hx.len
 have hcut:=mQ b x hx
 have h1:¬((n:Int)<IntKind.i64.wrap (-32*IntKind.i64.wrap (((aK x).length:Int)+1))):=by
  rw[wrap_i64 (n:=((aK x).length:Int)+1) (by omega) (by omega),wrap_i64 (by omega) (by omega)];omega
 have h2:¬((n:Int)<0):=by omega
 by_cases h0:x=0
 ·subst h0
  have h3:(aK 0).length=0:=by rw[bF];rfl
  rw[Nat.zero_mul]
  simp only[aZ,hcut,Option.bind_some,List.isEmpty_nil,aR,if_true,bj,ed,cM,aP,decide_eq_false h2,Bool.false_eq_true,if_false,h3,Int.natCast_zero,beq_self_eq_true,aD,ite_self]
  rw[HA,o9]
 ·have h3:(aK x).length≠0:=fun e=>h0 ((dJ x).1 (List.length_eq_zero_iff.1 e))
  have h4:(((aK x).length:Int)==0)=false:=beq_eq_false_iff_ne.2 (by omega)
  have hd:(n:Int).tdiv 32=((n / 32:Nat):Int):=dH n 32
  have hq:n / 32<=500000:=by clear h1;omega
  have hw1:IntKind.i64.wrap ((n / 32:Nat):Int)=((n / 32:Nat):Int):=by rw[wrap_i64]<;>omega
  have hw2:IntKind.i64.wrap (((n / 32:Nat):Int)+((aK x).length:Int))=((n / 32:Nat):Int)+((aK x).length:Int):=by rw[wrap_i64]<;>omega
  have hw3:IntKind.i64.wrap (((n / 32:Nat):Int)+((aK x).length:Int)+1)=((n / 32:Nat):Int)+((aK x).length:Int)+1:=by rw[wrap_i64]<;>omega
  have c1:(0:Int)<=((n / 32:Nat):Int):=by omega
  have c2:((n / 32:Nat):Int)<=((n / 32:Nat):Int)+((aK x).length:Int)+1:=by omega
  have c3:((n / 32:Nat):Int)+((aK x).length:Int)+1<=4294967296:=by omega
  have h:=F2 n (nb x) (aK x) (cd x) (by omega) (n / 32) hq (aK x).length 0 false (List.replicate (n / 32) 0) 0 (by omega) (fun z hz=>by rw[List.mem_replicate]at hz;omega) (by simp) (Nat.pow_pos (by decide))
  rw[eG,Nat.zero_add,Nat.zero_add,Nat.add_zero,List.drop_zero,bY,Nat.mul_left_comm,xo,Nat.div_add_mod,<-so,jG,Int.natCast_zero]at h
  simp only[aZ,hcut,Option.bind_some,List.isEmpty_nil,aR,if_true,bj,ed,cM,aP,decide_eq_false h1,decide_eq_false h2,Bool.false_eq_true,if_false,h4,hd,hw1,hw2,hw3,decide_eq_true c1,decide_eq_true c2,decide_eq_true c3,Int.toNat_natCast]
  rw[show ws x=ints .u32 (aK x)from rfl]
  rw[h];rfl
end Go.Dn.Dec
namespace Go.Dn.Dec
open Go.Proofs
theorem eQ{k:Nat}{g:List V->List Ob->Option Out}(h:aE.ext k=some g)(args:List V)(S:List Ob):rk Tryz.prog aE (Task.call k args S)=g args S:=by
 rw[y6]
 simp only[mI,h,bJ]
 cases g args S<;>simp
theorem AG(n:Nat)(h:n<4294967296):rk Tryz.prog aE (Task.call 163 [V.d (D.i .u32 (n:Int))] [])=some (.d (.i .i64 (bd n:Nat)),[]):=by
 rw[eQ (g:=lD) rfl]
 have h1:(0:Int)<=(n:Int)/\(n:Int)<4294967296:=by omega
 simp only[lD,if_pos h1,Int.toNat_natCast]
theorem ku(n:Nat):n<2^bd n:=by
 unfold bd
 split
 ·subst n;decide
 ·exact Nat.lt_log2_self
theorem lV(n:Nat)(h:n≠0):2^(bd n-1)<=n:=by
 unfold bd
 rw[if_neg h,Nat.add_sub_cancel]
 exact Nat.log2_self_le h
theorem iA{n:Nat}(h:n≠0):0<bd n:=by unfold bd;rw[if_neg h];omega
theorem cf(n k:Nat):bd n<=k↔n<2^k:=by
 constructor
 ·intro h;exact Nat.lt_of_lt_of_le (ku n) (Nat.pow_le_pow_right (by decide) h)
 ·intro h
  by_cases h0:n=0
  ·subst h0;simp[bd]
  ·have h1:=lV n h0
   have h2:=iA h0
   have:2^(bd n-1)<2^k:=Nat.lt_of_le_of_lt h1 h
   have:=(Nat.pow_lt_pow_iff_right (show 1<2 by decide)).1 this
   omega
theorem vS{n k:Nat}(h1:2^k<=n)(h2:n<2^(k+1)):bd n=k+1:=by
 have a:=(cf n (k+1)).2 h2
 have b:¬bd n<=k:=fun h=>by have:=(cf n k).1 h;omega
 omega
theorem sA(n:Nat)(h:n≠0):∃m z:Nat,(aK n).length=m+1/\(aK n)[m]?=some (z:Int)/\z≠0/\z<W/\n / W^m=z:=by
  induction n using Nat.strongRecOn with
  |ind n ih=>
    rw[dA h]
    by_cases h2:n / W=0
    · rw [h2, bF]
      have h3 : n < W := by rcases Nat.div_eq_zero_iff.1 h2 with h | h; · exact absurd h (by decide)
                            · exact h
      refine⟨0,n,rfl,?_,h,h3,by simp⟩
      simp[Nat.mod_eq_of_lt h3]
    · obtain ⟨m, z, a, b, c, d, e⟩ := ih (n / W) (Nat.div_lt_self (by omega) (by decide)) h2
      refine⟨m+1,z,by rw[List.length_cons,a],by rw[List.getElem?_cons_succ,b],c,d,?_⟩
      rw[Nat.pow_succ,Nat.mul_comm,<-Nat.div_div_eq_div_mul,e]
theorem Kf:W=2^32:=by decide
theorem kb(m:Nat):W^m=2^(32*m):=by rw[Kf,<-Nat.pow_mul]
theorem qV(b:Bool)(x:Nat)(hx:Fits x):rk Tryz.prog aE (Task.call 113 [V.d (D.l b (ws x))] [])=some (.d (.i .i64 (bd x:Nat)),[]):=by
 rw[f34]
 have lx:=hx.len
 have hcut:=mQ b x hx
 by_cases h0:x=0
 ·subst h0
  simp[hcut,bF,bd]
 ·obtain⟨m,z,a,g,c,d,e⟩:=sA x h0
  have h4:((((aK x).length:Nat):Int)==0)=false:=beq_eq_false_iff_ne.2 (by omega)
  have hw:IntKind.i64.wrap (((aK x).length:Int)-1)=(m:Int):=by rw[wrap_i64]<;>omega
  have hz:=AG z d
  have hlen:bd x=32*m+bd z:=by
   have hb:=iA c
   have h1:=lV z c
   have h2:=ku z
   have e1:2^(32*m+(bd z-1))<=x:=by
    rw[Nat.pow_add,<-kb]
    have:W^m*z<=x:=by rw[<-e];exact Nat.mul_div_le x (W^m)
    exact Nat.le_trans (Nat.mul_le_mul_left _ h1) this
   have e2:x<2^(32*m+(bd z-1)+1):=by
    rw[show 32*m+(bd z-1)+1=32*m+bd z by omega,Nat.pow_add,<-kb]
    have:x<W^m*(z+1):=by
     rw[<-e];exact Nat.lt_mul_div_succ x (Nat.pow_pos ft)
    exact Nat.lt_of_lt_of_le this (Nat.mul_le_mul_left _ h2)
   rw[vS e1 e2];omega
  have hbz:bd z<=32:=(cf z 32).2 d
  have hw2:IntKind.i64.wrap (32*(m:Int))=32*(m:Int):=by rw[wrap_i64]<;>omega
  have hw3:IntKind.i64.wrap (32*(m:Int)+(bd z:Int))=(bd x:Int):=by rw[wrap_i64]<;>omega
  have hg:(ws x)[m]?=some (D.i .u32 (z:Int)):=by rw[ws,dC,g];rfl
  simp only[aZ,hcut,Option.bind_some,List.isEmpty_nil,aR,if_true,bj,ed,cM,aP,h4,Bool.false_eq_true,if_false,hw,bp,hg,bJ,iw,beq_self_eq_true,Int.toNat_natCast,ik,List.getElem?_cons_zero,bl,hz,hw2,hw3,aD]
def ef(x y:Nat):Int:=if x<y then -1 else if y<x then 1 else 0
theorem jV(a:List Int)(i:Nat)(h:i<a.length):aN (a.take (i+1))=aN (a.take i)+W^i*a[i].toNat:=by
 rw[List.take_add_one,List.getElem?_eq_getElem h,cU,List.length_take,Nat.min_eq_left (by omega)]
 simp[aN]
theorem lex_lt{i p q x y:Nat}(hp:p<W^i)(h:x<y):p+W^i*x<q+W^i*y:=by
 have h1:W^i*(x+1)<=W^i*y:=Nat.mul_le_mul_left _ h
 rw[Nat.mul_add,Nat.mul_one]at h1
 omega
theorem xA(b_0 b_2:Bool)(a c:List Int)(ha:cP a)(hc:cP c)(hb:a.length<=100000)(hac:a.length=c.length):∀i:Nat,i<=a.length->
  rk Tryz.prog aE (Task.at_ 164 0 [false,true,false,true,true,true] (sv 49 [(0,V.d (D.l b_0 (ints .u32 a))),(1,V.d (D.l b_2 (ints .u32 c))),(5,V.d (D.i .i64 ((i:Int)-1)))]) [] [])=
   some (.d (.i .i64 (ef (aN (a.take i)) (aN (c.take i)))),[])
 |0,hi=>by
  rw[ya]
  simp[ef]
 |i+1,hi=>by
  rw[ya]
  have ih:=xA b_0 b_2 a c ha hc hb hac i (by omega)
  have hia:i<a.length:=by omega
  have hic:i<c.length:=by omega
  obtain⟨u,eu,hu⟩:=ha.get hia
  obtain⟨v,ev,hv⟩:=hc.get hic
  have ga:a[i]?=some (u:Int):=by rw[List.getElem?_eq_getElem hia,eu]
  have gc:c[i]?=some (v:Int):=by rw[List.getElem?_eq_getElem hic,ev]
  have pa:=lQ (ha.take i)
  have pc:=lQ (hc.take i)
  rw[List.length_take,Nat.min_eq_left (by omega)]at pa pc
  have e0:(((i+1:Nat):Int)-1)=(i:Int):=by omega
  have h0:(i:Int) ≥ 0:=by omega
  have hw:IntKind.i64.wrap ((i:Int)-1)=(i:Int)-1:=by rw[wrap_i64]<;>omega
  rw[e0,jV a i hia,jV c i hic,eu,ev]
  simp only[Int.toNat_natCast]
  generalize aN (a.take i)=p at *
  generalize aN (c.take i)=q at *
  rcases Nat.lt_trichotomy u v with h|h|h
  ·have h1:(u:Int)<(v:Int):=by omega
   have h2:ef (p+W^i*u) (q+W^i*v) = -1:=by
    unfold ef;rw[if_pos (lex_lt pa h)]
   simp[h0,ga,gc,h1,h2]
  ·subst h
   have h2:ef (p+W^i*u) (q+W^i*u)=ef p q:=by
    unfold ef;congr 1
    ·exact propext (by omega)
    ·congr 1;exact propext (by omega)
   rw[h2]
   simp[h0,ga,gc,hw,ih]
  ·have h1:¬(u:Int)<(v:Int):=by omega
   have h1':(v:Int)<(u:Int):=by omega
   have h2:ef (p+W^i*u) (q+W^i*v)=1:=by
    have:=lex_lt (q:=p) pc h
    unfold ef;rw[if_neg (by omega),if_pos this]
   simp[h0,ga,gc,h1,h1',h2]
theorem ek(n:Nat):n<W^(aK n).length:=by
 have:=lQ (cd n)
 rwa[bY]at this
theorem wz(n:Nat)(h:n≠0):W^((aK n).length-1)<=n:=by
 obtain⟨m,z,a,g,c,d,e⟩:=sA n h
 rw[a,Nat.add_sub_cancel]
 have:W^m*z<=n:=by rw[<-e];exact Nat.mul_div_le n (W^m)
 exact Nat.le_trans (Nat.le_mul_of_pos_right _ (by omega)) this
theorem su{x y:Nat}(h:(aK x).length<(aK y).length):x<y:=by
 have h1:=ek x
 have hy:y≠0:=fun e=>by rw[e,bF]at h;simp at h
 have h2:=wz y hy
 have:W^(aK x).length<=W^((aK y).length-1):=Nat.pow_le_pow_right ft (by omega)
 omega
theorem IW(b c:Bool)(x y:Nat)(hx:Fits x)(hy:Fits y):rk Tryz.prog aE (Task.call 164 [V.d (D.l b (ws x)),V.d (D.l c (ws y))] [])=some (.d (.i .i64 (ef x y)),[]):=by
 rw[f62]
 have lx:=hx.len
 have ly:=hy.len
 have c1:=mQ b x hx
 have c2:=mQ c y hy
 simp only[aZ,c1,c2,Option.bind_some,List.isEmpty_nil,aR,if_true,bj,ed,cM,aP,decide_eq_true_eq]
 by_cases h1:(aK x).length<(aK y).length
 ·have:=su h1
  rw[if_pos (by omega),ef,if_pos this];rfl
 ·by_cases h2:(aK y).length<(aK x).length
  ·have:=su h2
   rw[if_neg (by omega),if_pos (by omega),ef,if_neg (by omega),if_pos this];rfl
  ·have h3:(aK x).length=(aK y).length:=by omega
   have:=xA (nb x) (nb y) (aK x) (aK y) (cd x) (cd y) (by omega) h3 (aK x).length (Nat.le_refl _)
   rw[List.take_length,h3,List.take_length,bY,bY]at this
   have hw:IntKind.i64.wrap (((aK y).length:Int)-1)=((aK y).length:Int)-1:=by rw[wrap_i64]<;>omega
   rw[if_neg (by omega),if_neg (by omega),h3,hw,ws,ws,this]
   rfl
theorem Fa(b:Bool)(x:Nat)(hx:Fits x):rk Tryz.prog aE (Task.call 168 [V.d (D.l b (ws x))] [])=some (.d (.i .u64 ((x%18446744073709551616:Nat):Int)),[]):=by
  have step:∀n_2:Int,∀n_3:Int,∀i:Nat,(i:Int)<n_3->i<=1->∀u:Nat,(aK x)[i]?=some (u:Int)->
     rk Tryz.prog aE (Task.at_ 168 0 [false,true,false,true,true] (sv 23 [(0,V.d (D.l b (ws x))),(3,V.d (D.i IntKind.u64 n_2)),(7,V.d (D.i IntKind.i64 n_3)),(8,V.d (D.i IntKind.i64 (i:Int)))]) [] [])=
     rk Tryz.prog aE (Task.at_ 168 0 [false,true,false,true,true] (sv 23 [(0,V.d (D.l b (ws x))),(3,V.d (D.i IntKind.u64 (IntKind.u64.wrap (((BitVec.ofInt IntKind.u64.bits n_2 ||| BitVec.ofInt IntKind.u64.bits (IntKind.u64.wrap (IntKind.u64.wrap (u:Int)*2^(32*i)))).toNat:Nat):Int)))),(7,V.d (D.i IntKind.i64 n_3)),(8,V.d (D.i IntKind.i64 ((i+1:Nat):Int)))]) [] []):=by
    intro n_2 n_3 i hi hi1 u hu
    rw[x8]
    have hg:(ws x)[i]?=some (D.i .u32 (u:Int)):=by rw[ws,dC,hu];rfl
    have hw:IntKind.i64.wrap (32*(i:Int))=((32*i:Nat):Int):=by rw[wrap_i64]<;>omega
    have hw1:IntKind.i64.wrap ((i:Int)+1)=((i+1:Nat):Int):=by rw[wrap_i64]<;>omega
    have hp:(0:Int)<=((32*i:Nat):Int):=by omega
    have hm:min (32*i) 64=32*i:=by omega
    simp only[aP,decide_eq_true hi,if_true,bJ,bp,hg,Option.bind_some,iw,beq_self_eq_true,aR,Int.toNat_natCast,ik,List.getElem?_cons_zero,bl,hw,hw1,decide_eq_true hp,hm,aA]
  have fin:∀n_2:Int,∀n:Int,rk Tryz.prog aE (Task.at_ 168 0 [false,true,false,true,true] (sv 23 [(0,V.d (D.l b (ws x))),(3,V.d (D.i IntKind.u64 n_2)),(7,V.d (D.i IntKind.i64 n)),(8,V.d (D.i IntKind.i64 n))]) [] [])=some (.d (.i .u64 n_2),[]):=by
    intro n_2 n
    rw[x8]
    have:¬n<n:=by omega
    simp[this]
  rw[f56,cM,aA]
  by_cases h0:x=0
  · subst h0
    rw[bF]
    exact fin 0 0
  · have e0 := dA h0
    have hm:=Nat.mod_lt x ft
    have hmd:=Nat.mod_add_div x W
    have s1:=step 0
    by_cases h1:x / W=0
    · rw [h1, bF] at e0
      have hx1:x<W:=by rw[h1,Nat.mul_zero]at hmd;omega
      have:=s1 1 0 (by decide) (by decide) (x%W) (by rw[e0];rfl)
      rw[e0]
      refine Eq.trans this ?_
      rw[Nat.mod_eq_of_lt hx1]
      have hW:x<4294967296:=hx1
      have hv:IntKind.u64.wrap (((BitVec.ofInt IntKind.u64.bits 0 ||| BitVec.ofInt IntKind.u64.bits (IntKind.u64.wrap (IntKind.u64.wrap (x:Int)*2^(32*0)))).toNat:Nat):Int)=((x%18446744073709551616:Nat):Int):=by
        rw[Nat.mul_zero,Int.pow_zero,Int.mul_one,aO (x:Int),cT (by omega),aO (x:Int),cT (by omega)]
        have:=jv (a:=0) (b:=x) (by decide) (by omega)
        have h2:(BitVec.ofInt IntKind.u64.bits 0 ||| BitVec.ofInt IntKind.u64.bits (x:Int)).toNat=0 ||| x:=this
        rw[h2,Nat.zero_or,aO];omega
      rw[hv]
      exact fin _ 1
    · have e1 := dA h1
      rw[e1]at e0
      have hm2:=Nat.mod_lt (x / W) ft
      have hl:2<=(aK x).length:=by rw[e0];simp
      have hmin:(if (2:Int)<((aK x).length:Int) then(2:Int) else((aK x).length:Int))=2:=by split<;>omega
      rw[hmin]
      have a1:=s1 2 0 (by decide) (by decide) (x%W) (by rw[e0];rfl)
      refine Eq.trans a1 ?_
      have a2:=step (IntKind.u64.wrap (((BitVec.ofInt IntKind.u64.bits 0 ||| BitVec.ofInt IntKind.u64.bits (IntKind.u64.wrap (IntKind.u64.wrap ((x%W:Nat):Int)*2^(32*0)))).toNat:Nat):Int)) 2 1 (by decide) (by decide) (x / W%W) (by rw[e0];rfl)
      refine Eq.trans a2 ?_
      have k1:x%W<4294967296:=hm
      have k2:x / W%W<4294967296:=hm2
      have hv:IntKind.u64.wrap (((BitVec.ofInt IntKind.u64.bits 0 ||| BitVec.ofInt IntKind.u64.bits (IntKind.u64.wrap (IntKind.u64.wrap ((x%W:Nat):Int)*2^(32*0)))).toNat:Nat):Int)=((x%W:Nat):Int):=by
        rw[Nat.mul_zero,Int.pow_zero,Int.mul_one,aO ((x%W:Nat):Int),cT (by omega),aO ((x%W:Nat):Int),cT (by omega)]
        have:=jv (a:=0) (b:=x%W) (by decide) (by omega)
        have h2:(BitVec.ofInt IntKind.u64.bits 0 ||| BitVec.ofInt IntKind.u64.bits ((x%W:Nat):Int)).toNat=0 ||| x%W:=this
        rw[h2,Nat.zero_or,aO,cT (by omega)]
      rw[hv]
      have hv2:IntKind.u64.wrap (((BitVec.ofInt IntKind.u64.bits ((x%W:Nat):Int) ||| BitVec.ofInt IntKind.u64.bits (IntKind.u64.wrap (IntKind.u64.wrap ((x / W%W:Nat):Int)*2^(32*1)))).toNat:Nat):Int)=((x%18446744073709551616:Nat):Int):=by
        have hmul:x / W%W*2^32<18446744073709551616:=by
          have:x / W%W*2^32<=4294967295*2^32:=Nat.mul_le_mul_right _ (by omega)
          omega
        have hc:((x / W%W:Nat):Int)*2^(32*1)=((x / W%W*2^32:Nat):Int):=by simp
        rw[aO ((x / W%W:Nat):Int),cT (by omega),hc,aO (((x / W%W*2^32:Nat):Int)),cT hmul]
        have:=jv (a:=x%W) (b:=x / W%W*2^32) (by omega) hmul
        rw[nD (k:=32) (by exact k1)]at this
        have h2:(BitVec.ofInt IntKind.u64.bits ((x%W:Nat):Int) ||| BitVec.ofInt IntKind.u64.bits ((x / W%W*2^32:Nat):Int)).toNat=x%W+x / W%W*2^32:=this
        rw[h2,aO]
        unfold W at *
        omega
      rw[hv2]
      exact fin _ 2
end Go.Dn.Dec
namespace Go.Dn.Dec
open Go.Proofs
theorem tY(a:List Int)(ha:cP a)(hb:a.length<=1000000):∀n:Nat,n<=a.length->aN (a.take n)=aN a->
  rk Tryz.prog ir (Task.at_ 162 1 [false,false,true,true] (sv 22 [(0,V.m 0 0 a.length),(3,V.d (D.i .i64 (n:Int)))]) [] [Ob.cells (cellsOf a) []])=some (.d (nl (aN a)),[Ob.cells (cellsOf a) []])
 |0,hn,hv=>by
  rw[xp]
  have h0:aN a=0:=by rw[<-hv];rfl
  have e:nl (aN a) = .l true []:=by rw[h0];exact kR bF
  have hv0:=gN a 0 (by omega)
  simp[pg,e,hv0,ints]
 |n+1,hn,hv=>by
  rw[xp]
  have hx:n<a.length:=by omega
  have gx:=List.getElem?_eq_getElem hx
  have hp:(0:Int)<(n:Int)+1:=by omega
  have hw:IntKind.i64.wrap (n:Int)=(n:Int):=by rw[wrap_i64]<;>omega
  have hl:n+1<=4294967296:=by omega
  have hni:(n:Int)<(a.length:Int):=by omega
  by_cases h0:a[n]=0
  ·have ih:=tY a ha hb n (by omega) (by rw[<-hv];exact(dL a n (by rw[gx,h0])).symm)
   simp[hp,hw,hni,cw,gx,h0,pg,ih]
  ·have e:nl (aN a) = .l (a.take (n+1)).isEmpty (ints .u32 (a.take (n+1))):=by rw[<-hv];exact kR (fP ha hx h0)
   have hle:(n:Int)+1<=(a.length:Int):=by omega
   have hp2:(0:Int)<=(n:Int)+1:=by omega
   have ht:((n:Int)+1).toNat=n+1:=by omega
   have hl2:n+1<=a.length:=by omega
   have hv1:=gN a (n+1) hl2
   simp[hp,hw,hni,cw,gx,h0,pg,hle,hp2,ht,hv1,hl,e,fi,hl2]
theorem xB(a:List Int)(ha:cP a)(hb:a.length<=1000000):rk Tryz.prog ir (Task.call 162 [V.m 0 0 a.length] [Ob.cells (cellsOf a) []])=some (.d (nl (aN a)),[Ob.cells (cellsOf a) []]):=by
 rw[a51]
 simp[tY a ha hb a.length (Nat.le_refl _) (by rw[List.take_length])]
theorem qO(a:List Int)(o:Ob)(n:Nat)(h:n<=a.length):dw [Ob.cells (cellsOf a) [],o] 1 (V.m 1 0 n)=some (ints .u32 (a.take n)):=by
 simp only[dw,view,bE,List.length_cons,List.length_nil,Nat.zero_add,if_true]
 rw[if_pos (by rw[dp];omega)]
 simp only[List.drop_zero,cellsOf,<-List.map_take,jU,o6]
theorem ua(a:List Int)(cs:List V)(ha:cP a)(hb:a.length<=1000000):∀n:Nat,n<=a.length->aN (a.take n)=aN a->
  rk Tryz.prog ir (Task.at_ 162 2 [false,false,true,true] (sv 22 [(0,V.m 1 0 a.length),(3,V.d (D.i .i64 (n:Int)))]) [] [Ob.cells (cellsOf a) [],Ob.cells cs []])=some (.d (nl (aN a)),[Ob.cells (cellsOf a) [],Ob.cells cs []])
 |0,hn,hv=>by
  rw[rA]
  have h0:aN a=0:=by rw[<-hv];rfl
  have e:nl (aN a) = .l true []:=by rw[h0];exact kR bF
  have hv0:=qO a (Ob.cells cs []) 0 (by omega)
  simp[k9,e,hv0,ints]
 |n+1,hn,hv=>by
  rw[rA]
  have hx:n<a.length:=by omega
  have gx:=List.getElem?_eq_getElem hx
  have hp:(0:Int)<(n:Int)+1:=by omega
  have hw:IntKind.i64.wrap (n:Int)=(n:Int):=by rw[wrap_i64]<;>omega
  have hl:n+1<=4294967296:=by omega
  have hni:(n:Int)<(a.length:Int):=by omega
  by_cases h0:a[n]=0
  ·have ih:=ua a cs ha hb n (by omega) (by rw[<-hv];exact(dL a n (by rw[gx,h0])).symm)
   simp[hp,hw,hni,cw,gx,h0,k9,ih]
  ·have e:nl (aN a) = .l (a.take (n+1)).isEmpty (ints .u32 (a.take (n+1))):=by rw[<-hv];exact kR (fP ha hx h0)
   have hle:(n:Int)+1<=(a.length:Int):=by omega
   have hp2:(0:Int)<=(n:Int)+1:=by omega
   have ht:((n:Int)+1).toNat=n+1:=by omega
   have hl2:n+1<=a.length:=by omega
   have hv1:=qO a (Ob.cells cs []) (n+1) hl2
   simp[hp,hw,hni,cw,gx,h0,k9,hle,hp2,ht,hv1,hl,e,fi,hl2]
theorem Ez(a:List Int)(cs:List V)(ha:cP a)(hb:a.length<=1000000):rk Tryz.prog ir (Task.call 162 [V.m 1 0 a.length] [Ob.cells (cellsOf a) [],Ob.cells cs []])=some (.d (nl (aN a)),[Ob.cells (cellsOf a) [],Ob.cells cs []]):=by
 rw[Li]
 simp[ua a cs ha hb a.length (Nat.le_refl _) (by rw[List.take_length])]
theorem tW(b_0 b_2:Bool)(cs ds:List V)(a c:List Int)(ha:cP a)(hc:cP c)(hb:a.length<=100000)(hac:a.length=c.length):∀i:Nat,i<=a.length->
  rk Tryz.prog ir (Task.at_ 164 2 [false,true,false,true,true,true] (sv 49 [(0,V.d (D.l b_0 (ints .u32 a))),(1,V.d (D.l b_2 (ints .u32 c))),(5,V.d (D.i .i64 ((i:Int)-1)))]) [] [Ob.cells ds [],Ob.cells cs []])=
   some (.d (.i .i64 (ef (aN (a.take i)) (aN (c.take i)))),[Ob.cells ds [],Ob.cells cs []])
 |0,hi=>by
  rw[xq]
  simp[ef]
 |i+1,hi=>by
  rw[xq]
  have ih:=tW b_0 b_2 cs ds a c ha hc hb hac i (by omega)
  have hia:i<a.length:=by omega
  have hic:i<c.length:=by omega
  obtain⟨u,eu,hu⟩:=ha.get hia
  obtain⟨v,ev,hv⟩:=hc.get hic
  have ga:a[i]?=some (u:Int):=by rw[List.getElem?_eq_getElem hia,eu]
  have gc:c[i]?=some (v:Int):=by rw[List.getElem?_eq_getElem hic,ev]
  have pa:=lQ (ha.take i)
  have pc:=lQ (hc.take i)
  rw[List.length_take,Nat.min_eq_left (by omega)]at pa pc
  have e0:(((i+1:Nat):Int)-1)=(i:Int):=by omega
  have h0:(i:Int) ≥ 0:=by omega
  have hw:IntKind.i64.wrap ((i:Int)-1)=(i:Int)-1:=by rw[wrap_i64]<;>omega
  rw[e0,jV a i hia,jV c i hic,eu,ev]
  simp only[Int.toNat_natCast]
  generalize aN (a.take i)=p at *
  generalize aN (c.take i)=q at *
  rcases Nat.lt_trichotomy u v with h|h|h
  ·have h1:(u:Int)<(v:Int):=by omega
   have h2:ef (p+W^i*u) (q+W^i*v) = -1:=by
    unfold ef;rw[if_pos (lex_lt pa h)]
   simp[h0,ga,gc,h1,h2]
  ·subst h
   have h2:ef (p+W^i*u) (q+W^i*u)=ef p q:=by
    unfold ef;congr 1
    ·exact propext (by omega)
    ·congr 1;exact propext (by omega)
   rw[h2]
   simp[h0,ga,gc,hw,ih]
  ·have h1:¬(u:Int)<(v:Int):=by omega
   have h1':(v:Int)<(u:Int):=by omega
   have h2:ef (p+W^i*u) (q+W^i*v)=1:=by
    have:=lex_lt (q:=p) pc h
    unfold ef;rw[if_neg (by omega),if_pos this]
   simp[h0,ga,gc,h1,h1',h2]
theorem rr{a:List Int}(ha:cP a):(aK (aN a)).length<=a.length:=uL (lQ ha)
theorem Ew(a c:List Int)(ha:cP a)(hc:cP c)(la:a.length<=100000)(lc:c.length<=100000):rk Tryz.prog ir (Task.call 164 [V.m 0 0 a.length,V.m 1 0 c.length] [Ob.cells (cellsOf c) [],Ob.cells (cellsOf a) []])=some (.d (.i .i64 (ef (aN a) (aN c))),[Ob.cells (cellsOf c) [],Ob.cells (cellsOf a) []]):=by
 rw[Mn]
 have c1:=xB a ha (by omega)
 have c2:=Ez c (cellsOf a) hc (by omega)
 rw[jG]at c1 c2
 have lx:=rr ha
 have ly:=rr hc
 simp only[aZ,c1,c2,Option.bind_some,gF,fp,iv,beq_self_eq_true,aR,if_true,bj,ed,cM,aP,decide_eq_true_eq]
 generalize aN a=x at *
 generalize aN c=y at *
 by_cases h1:(aK x).length<(aK y).length
 ·have:=su h1
  rw[if_pos (by omega),ef,if_pos this];rfl
 ·by_cases h2:(aK y).length<(aK x).length
  ·have:=su h2
   rw[if_neg (by omega),if_pos (by omega),ef,if_neg (by omega),if_pos this];rfl
  ·have h3:(aK x).length=(aK y).length:=by omega
   have:=tW (nb x) (nb y) (cellsOf a) (cellsOf c) (aK x) (aK y) (cd x) (cd y) (by omega) h3 (aK x).length (Nat.le_refl _)
   rw[List.take_length,h3,List.take_length,bY,bY]at this
   have hw:IntKind.i64.wrap (((aK y).length:Int)-1)=((aK y).length:Int)-1:=by rw[wrap_i64]<;>omega
   rw[if_neg (by omega),if_neg (by omega),h3,hw,ws,ws,this]
   rfl
theorem ps(b_0:Bool)(l_1:List D)(n_2:Int)(b_3:Bool):
  rk Tryz.prog tL (Task.at_ 162 0 [true,false,false,false,false,true,true] (sv 22 [(0,V.d (D.l b_0 l_1)),(3,V.d (D.i IntKind.i64 n_2)),(15,V.d (D.b b_3))]) [] [])=aC (rk Tryz.prog tL) (
aT b_3 (Tr.call (Task.at_ 162 0 [false,false,true,true] (sv 22 [(0,V.d (D.l b_0 l_1)),(3,V.d (D.i IntKind.i64 (IntKind.i64.wrap (n_2-1))))]) [] []) Tr.ret)
  (aM (decide (0<=n_2/\n_2<=(↑l_1.length:Int)))
    (aM (bw 1 l_1)
      (aM (bw 1 (List.take (n_2.toNat-0) (List.drop 0 l_1)))
        (aM (((List.take (n_2.toNat-0) (List.drop 0 l_1)).map V.d).all V.one)
         (aM (decide ((List.take (n_2.toNat-0) (List.drop 0 l_1)).length<=4294967296))
          (ob (yL 0 (V.m 0 0 (List.take (n_2.toNat-0) (List.drop 0 l_1)).length) [Ob.cells (List.map V.d (List.take (n_2.toNat-0) (List.drop 0 l_1))) []]) Tr.ret))))))):=
  aF (by kernel_rfl)
theorem sO(a:List Int):bg 0 (cellsOf a)=true:=by
 refine cp.2 fun c hc=>?_
 simp only[cellsOf,ints,List.map_map,List.mem_map]at hc
 obtain⟨z,_,rfl⟩:=hc
 rfl
theorem Dr(a:List Int):(cellsOf a).all V.one=true:=by
 rw[List.all_eq_true]
 intro c hc
 simp only[cellsOf,ints,List.map_map,List.mem_map]at hc
 obtain⟨z,_,rfl⟩:=hc
 rfl
theorem uW(a:List Int)(n:Nat):yL 0 (V.m 0 0 n) [Ob.cells (cellsOf a) []]=some (.m 0 0 n,[.cells (cellsOf a) []]):=by
 simp[yL,bE,sO,kW]
theorem tZ(b:Bool)(a:List Int)(ha:cP a)(hb:a.length<=1000000):∀n:Nat,n<=a.length->aN (a.take n)=aN a->
  rk Tryz.prog tL (Task.at_ 162 0 [false,false,true,true] (sv 22 [(0,V.d (D.l b (ints .u32 a))),(3,V.d (D.i .i64 (n:Int)))]) [] [])=some (.m 0 0 (aK (aN a)).length,[.cells (cellsOf (aK (aN a))) []])
 |0,hn,hv=>by
  rw[xz]
  have h0:aN a=0:=by rw[<-hv];rfl
  have ho:yL 0 (V.m 0 0 0) [Ob.cells [] []]=some (.m 0 0 0,[.cells [] []]):=uW [] 0
  have hc0:cellsOf []=[]:=rfl
  simp[ps,h0,bF,hc0,ho]
 |n+1,hn,hv=>by
  rw[xz]
  have hx:n<a.length:=by omega
  have gx:=List.getElem?_eq_getElem hx
  have hp:(0:Int)<(n:Int)+1:=by omega
  have hw:IntKind.i64.wrap (n:Int)=(n:Int):=by rw[wrap_i64]<;>omega
  by_cases h0:a[n]=0
  ·have ih:=tZ b a ha hb n (by omega) (by rw[<-hv];exact(dL a n (by rw[gx,h0])).symm)
   simp[hp,hw,gx,h0,ps,ih]
  ·have e:aK (aN a)=a.take (n+1):=by rw[<-hv];exact fP ha hx h0
   have hle:((0:Int)<=(n:Int)+1/\(n:Int)+1<=((ints .u32 a).length:Nat)):=by rw[cC];omega
   have ht:((n:Int)+1).toNat=n+1:=by omega
   have e1:List.take ((n+1)-0) (List.drop 0 (ints .u32 a))=ints .u32 (a.take (n+1)):=by simp[jU]
   have e2:(ints .u32 (a.take (n+1))).map V.d=cellsOf (a.take (n+1)):=rfl
   have hl:(a.take (n+1)).length<=4294967296:=by rw[List.length_take];omega
   have hl2:(ints .u32 (a.take (n+1))).length=(a.take (n+1)).length:=by rw[cC]
   rw[e]
   have hb0:((a[n]:Int)==0)=false:=beq_eq_false_iff_ne.2 h0
   have hpd:((n+1:Nat):Int)>0:=by omega
   have hn1:((n+1:Nat):Int)=(n:Int)+1:=by omega
   have hwi:IntKind.i64.wrap (((n+1:Nat):Int)-1)=(n:Int):=by rw[wrap_i64]<;>omega
   simp only[aP,decide_eq_true hpd,if_true,hwi,bJ,bp,dC,gx,Option.map_some,Option.bind_some,iw,beq_self_eq_true,aR,Int.toNat_natCast,ik,List.getElem?_cons_zero,bl,hb0,aA]
   rw[ps,hn1,ht,e1,e2]
   simp only[aP,Bool.false_eq_true,if_false,aR,decide_eq_true hle,av,if_true,Dr,decide_eq_true hl,bJ,hl2,uW,Option.bind_some,aD]
theorem Ey(b:Bool)(a:List Int)(ha:cP a)(hb:a.length<=1000000):rk Tryz.prog tL (Task.call 162 [V.d (D.l b (ints .u32 a))] [])=some (.m 0 0 (aK (aN a)).length,[.cells (cellsOf (aK (aN a))) []]):=by
 rw[c51]
 simp[tZ b a ha hb a.length (Nat.le_refl _) (by rw[List.take_length])]
theorem CI(x y:Nat):decide (ef x y<0)=decide (x<y):=by
 unfold ef
 by_cases h:x<y
 ·simp[h]
 ·by_cases h2:y<x<;>simp[h,h2]
theorem pA{k:Nat}{g:List V->List Ob->Option Out}(h:iY.ext k=some g)(args:List V)(S:List Ob):rk Tryz.prog iY (Task.call k args S)=g args S:=by
 rw[y6]
 simp only[mI,h,bJ]
 cases g args S<;>simp
theorem w8(a:List Int):iR .u32 (ints .u32 a)=some a:=by
 induction a with
 |nil=>rfl
 |cons z a ih=>rw[uI,iR,if_pos rfl,ih];rfl
theorem mK(a:List Int):fI (cellsOf a)=some a:=by
 induction a with
 |nil=>rfl
 |cons z a ih=>
  show fI (V.d (.i .u32 z)::cellsOf a)=_
  rw[fI,ih];rfl
theorem HK{a:List Int}(h:cP a)(hl:a.length<=100000):Iv a=true:=by
 have:(a.all fun z=>decide (0<=z)&&decide (z<4294967296))=true:=by
  rw[List.all_eq_true]
  intro z hz
  have:=h z hz
  simp[this.1,this.2]
 simp only[Iv,this,Bool.true_and]
 exact decide_eq_true hl
theorem EA(b:Bool)(a:List Int)(ha:cP a)(hl:a.length<=100000):rk Tryz.prog iY (Task.call 162 [V.d (D.l b (ints .u32 a))] [])=some (.m 0 0 (aK (aN a)).length,[.cells (cellsOf (aK (aN a))) []]):=by
 rw[pA (g:=kc) rfl]
 simp only[kc,w8]
 rw[if_pos (HK ha hl)]
 simp[Ad,cellsOf,ints]
theorem IY(a:List Int)(ha:cP a)(hl:a.length<=100000):rk Tryz.prog iY (Task.call 162 [V.m 0 0 a.length] [.cells (cellsOf a) []])=some (.d (nl (aN a)),[.cells (cellsOf a) []]):=by
 rw[pA (g:=kc) rfl]
 simp only[kc,mK]
 rw[if_pos ⟨trivial,HK ha hl⟩]
theorem IV(a c:List Int)(ha:cP a)(hc:cP c)(hl:a.length<=100000)(hlc:c.length<=100000):rk Tryz.prog iY (Task.call 164 [V.m 0 0 a.length,V.m 1 0 c.length] [.cells (cellsOf c) [],.cells (cellsOf a) []])=some (.d (.i .i64 (ef (aN a) (aN c))),[.cells (cellsOf c) [],.cells (cellsOf a) []]):=by
 rw[pA (g:=oc) rfl]
 simp only[oc,mK]
 rw[if_pos ⟨trivial,trivial,HK ha hl,HK hc hlc⟩]
 rfl
theorem H4(out:List Int)(x d:Int)(r:List Int):(out++x::r).set out.length d=out++d::r:=by
 rw[List.set_append_right _ _ (Nat.le_refl _),Nat.sub_self];rfl
theorem zr(X Y A:List Int)(i b:Nat)(n:Nat)(hi:i<X.length)(hX:X.length<=100000)(T H:Nat)(b':Nat)(R:Option Out)(hA:A.length=X.length)(hTH:T<=H)(hHT:H-T<4294967296)(hH:H<18446744073709551616)
  (h:rk Tryz.prog iY (Task.at_ 218 0 [false,true,false,true,true,true,true] (sv 55 [(0,V.m 0 0 X.length),(1,V.m 1 0 Y.length),(6,V.d (D.i IntKind.u64 (b':Int))),(19,V.d (D.i IntKind.i64 (n:Int))),(20,V.d (D.i IntKind.i64 ((i+1:Nat):Int)))]) []
    [Ob.cells (cellsOf Y) [],Ob.cells (cellsOf (A.set i ((H-T:Nat):Int))) []])=R):
  rk Tryz.prog iY (Task.at_ 218 0 [true,true,true,true,true,true,false,false,true,true,false,false,true,false,true,true,true,true]
 (sv 55 [(0,V.m 0 0 X.length),(1,V.m 1 0 Y.length),(6,V.d (D.i IntKind.u64 (b':Int))),(7,V.d (D.i IntKind.i64 (i:Int))),(8,V.d (D.i IntKind.u64 (T:Int))),(9,V.d (D.i IntKind.u64 (H:Int))),(19,V.d (D.i IntKind.i64 (n:Int))),(20,V.d (D.i IntKind.i64 (i:Int)))])
 [] [Ob.cells (cellsOf Y) [],Ob.cells (cellsOf A) []])=R:=by
 rw[wQ]
 have hb1:(0:Int)<=(i:Int)/\(i:Int)<((X.length:Nat):Int):=by omega
 have hb2:i<(cellsOf A).length:=by rw[dp];omega
 have hw1:IntKind.u64.wrap ((H:Int)-(T:Int))=((H-T:Nat):Int):=by rw[aO];omega
 have hw2:IntKind.u32.wrap ((H-T:Nat):Int)=((H-T:Nat):Int):=by rw[ct];omega
 have hw3:IntKind.i64.wrap ((i:Int)+1)=((i+1:Nat):Int):=by rw[wrap_i64]<;>omega
 simp only[aR,decide_eq_true hb1,if_true,Int.toNat_natCast,decide_eq_true hb2,Bool.and_true,hw1,hw2,hw3,Nat.zero_add,ff,aA,h]
theorem H7(X Y A:List Int)(i:Nat)(n:Nat)(hi:i<X.length)(hX:X.length<=100000)(T x:Nat)(hx:x<4294967296)(hT:T<=4294967296)(R:Option Out)(hA:A.length=X.length)(hg:A[i]?=some (x:Int))
  (h:rk Tryz.prog iY (Task.at_ 218 0 [false,true,false,true,true,true,true] (sv 55 [(0,V.m 0 0 X.length),(1,V.m 1 0 Y.length),(6,V.d (D.i IntKind.u64 ((if x<T then 1 else 0:Nat):Int))),(19,V.d (D.i IntKind.i64 (n:Int))),(20,V.d (D.i IntKind.i64 ((i+1:Nat):Int)))]) []
    [Ob.cells (cellsOf Y) [],Ob.cells (cellsOf (A.set i (((x+W*(if x<T then 1 else 0)-T:Nat)):Int))) []])=R):
  rk Tryz.prog iY (Task.at_ 218 0 [true,true,true,false,false,true,true,false,false,true,false,true,true,true,true]
 (sv 55 [(0,V.m 0 0 X.length),(1,V.m 1 0 Y.length),(7,V.d (D.i IntKind.i64 (i:Int))),(8,V.d (D.i IntKind.u64 (T:Int))),(19,V.d (D.i IntKind.i64 (n:Int))),(20,V.d (D.i IntKind.i64 (i:Int)))]) []
 [Ob.cells (cellsOf Y) [],Ob.cells (cellsOf A) []])=R:=by
 rw[zh]
 have hb1:(0:Int)<=(i:Int)/\(i:Int)<((X.length:Nat):Int):=by omega
 have hw1:IntKind.u64.wrap (x:Int)=(x:Int):=by rw[aO];omega
 have hw2:IntKind.u64.wrap ((x:Int)+4294967296)=((x+4294967296:Nat):Int):=by rw[aO];omega
 simp only[aR,decide_eq_true hb1,if_true,Int.toNat_natCast,Nat.zero_add,cw,hg,Option.map_some,bJ,Option.bind_some,bj,bl,hw1,hw2,aP,decide_eq_true_eq]
 by_cases hlt:x<T
 ·have hlt':(x:Int)<(T:Int):=by omega
  rw[if_pos hlt',aA]
  simp only[if_pos hlt,Nat.mul_one]at h
  have e:x+W=x+4294967296:=rfl
  rw[e]at h
  exact zr X Y A i 0 n hi hX T (x+4294967296) 1 R hA (by omega) (by omega) (by omega) h
 ·have hlt':¬(x:Int)<(T:Int):=by omega
  rw[if_neg hlt',aA]
  simp only[if_neg hlt,Nat.mul_zero,Nat.add_zero]at h
  exact zr X Y A i 0 n hi hX T x 0 R hA (by omega) (by omega) (by omega) h
theorem Gc(X Y:List Int)(hX:cP X)(hY:cP Y)(lX:X.length<=100000)(lY:Y.length<=100000)(hYX:Y.length<=X.length)(hge:aN Y<=aN X):∀(d i:Nat) (out:List Int) (b:Nat),i+d=X.length->cP out->out.length=i->b<=1->aN out+aN (Y.take i)=aN (X.take i)+W^i*b->
  rk Tryz.prog iY (Task.at_ 218 0 [false,true,false,true,true,true,true] (sv 55 [(0,V.m 0 0 X.length),(1,V.m 1 0 Y.length),(6,V.d (D.i IntKind.u64 (b:Int))),(19,V.d (D.i IntKind.i64 (X.length:Int))),(20,V.d (D.i IntKind.i64 (i:Int)))]) []
    [Ob.cells (cellsOf Y) [],Ob.cells (cellsOf (out++X.drop i)) []])=some (.t [.d (nl (aN X-aN Y)),.d (.b true)],[]):=by
 intro d
 induction d with
 |zero=>
  intro i out b hi hu hl hb hv
  rw[vt]
  have hd:X.drop i=[]:=List.drop_eq_nil_of_le (by omega)
  have hol:X.length=out.length:=by omega
  have h3:¬((i:Int)<((out.length:Nat):Int)):=by omega
  rw[hd,List.append_nil]
  rw[List.take_of_length_le (show Y.length<=i by omega),List.take_of_length_le (show X.length<=i by omega)]at hv
  have hlt:=lQ hu
  rw[hl]at hlt
  have hb0:b=0:=by
   rcases(show b=0\/b=1 by omega)with h|h
   ·exact h
   ·rw[h,Nat.mul_one]at hv;omega
  have hvo:aN out=aN X-aN Y:=by rw[hb0,Nat.mul_zero]at hv;omega
  have hcm:=IY out hu (by omega)
  rw[hvo,jG]at hcm
  simp only[aP,decide_eq_false h3,Bool.false_eq_true,if_false,hol,aZ,hcm,Option.bind_some,gF,fp,iv,beq_self_eq_true,aR,if_true,bj,ed,aD]
  rfl
 |succ d ih=>
  intro i out b hi hu hl hb hv
  have hiX:i<X.length:=by omega
  have h3:(i:Int)<((X.length:Nat):Int):=by omega
  obtain⟨x,ex,hx⟩:=hX.get hiX
  have hdr:X.drop i=(x:Int)::X.drop (i+1):=by rw[List.drop_eq_getElem_cons hiX,ex]
  have hg:(out++X.drop i)[i]?=some (x:Int):=by rw[hdr,<-hl];simp
  have hAl:(out++X.drop i).length=X.length:=by rw[List.length_append,List.length_drop];omega
  have fin:∀T y:Nat,T=b+y->y<4294967296->aN (Y.take (i+1))=aN (Y.take i)+W^i*y->
    rk Tryz.prog iY (Task.at_ 218 0 [true,true,true,false,false,true,true,false,false,true,false,true,true,true,true]
 (sv 55 [(0,V.m 0 0 X.length),(1,V.m 1 0 Y.length),(7,V.d (D.i IntKind.i64 (i:Int))),(8,V.d (D.i IntKind.u64 (T:Int))),(19,V.d (D.i IntKind.i64 (X.length:Int))),(20,V.d (D.i IntKind.i64 (i:Int)))]) []
 [Ob.cells (cellsOf Y) [],Ob.cells (cellsOf (out++X.drop i)) []])=some (.t [.d (nl (aN X-aN Y)),.d (.b true)],[]):=by
   intro T y hT hy hyv
   refine H7 X Y _ i _ hiX lX T x hx (by omega) _ hAl hg ?_
   have hset:(out++X.drop i).set i (((x+W*(if x<T then 1 else 0)-T:Nat)):Int)=(out++[((x+W*(if x<T then 1 else 0)-T:Nat):Int)])++X.drop (i+1):=by
    rw[hdr,<-hl,H4];simp
   rw[hset]
   have hd1:x+W*(if x<T then 1 else 0)-T<4294967296:=by unfold W;split<;>omega
   have hd2:x+W*(if x<T then 1 else 0)-T+T=x+W*(if x<T then 1 else 0):=by unfold W;split<;>omega
   refine ih (i+1) _ (if x<T then 1 else 0) (by omega) (hu.snoc hd1) (by simp[hl]) (by split<;>omega) ?_
   generalize x+W*(if x<T then 1 else 0)-T=dd at hd2
   rw[cU,hl,jV X i hiX,ex,hyv]
   simp only[aN,Int.toNat_natCast,Nat.mul_zero,Nat.add_zero]
   rw[Nat.pow_succ]
   have e1:W^i*dd+W^i*T=W^i*x+W^i*(W*(if x<T then 1 else 0)):=by rw[<-Nat.mul_add,hd2,Nat.mul_add]
   rw[hT,Nat.mul_add]at e1
   rw[<-hT]at e1
   rw[Nat.mul_assoc]
   omega
  rw[vt]
  by_cases hiY:i<Y.length
  ·have h4:(i:Int)<((Y.length:Nat):Int):=by omega
   obtain⟨y,ey,hy⟩:=hY.get hiY
   have gy:Y[i]?=some (y:Int):=by rw[List.getElem?_eq_getElem hiY,ey]
   have hb1:(0:Int)<=(i:Int)/\(i:Int)<((Y.length:Nat):Int):=by omega
   have hw:IntKind.u64.wrap ((b:Int)+IntKind.u64.wrap (y:Int))=((b+y:Nat):Int):=by rw[aO (y:Int),aO];omega
   simp only[aP,decide_eq_true h3,decide_eq_true h4,if_true,aR,decide_eq_true hb1,Int.toNat_natCast,Nat.zero_add,cw,gy,Option.map_some,bJ,Option.bind_some,bj,bl,hw,aA]
   exact fin (b+y) y rfl hy (by rw[jV Y i hiY,ey,Int.toNat_natCast])
  ·have h4:¬(i:Int)<((Y.length:Nat):Int):=by omega
   simp only[aP,decide_eq_true h3,decide_eq_false h4,if_true,Bool.false_eq_true,if_false,aA]
   exact fin b 0 rfl (by decide) (by rw[List.take_of_length_le (by omega),List.take_of_length_le (by omega)];simp)
theorem H8(b c:Bool)(a e:List Int)(ha:cP a)(he:cP e)(la:a.length<=100000)(le:e.length<=100000):rk Tryz.prog iY (Task.call 218 [V.d (D.l b (ints .u32 a)),V.d (D.l c (ints .u32 e))] [])=some (DU (aN a) (aN e),[]):=by
 rw[Mz]
 have lx:=rr ha
 have ly:=rr he
 have c1:=EA b a ha la
 have c2:=EA c e he le
 have c3:=IV (aK (aN a)) (aK (aN e)) (cd _) (cd _) (by omega) (by omega)
 rw[bY,bY]at c3
 simp only[aZ,c1,Option.bind_some,AB,sO,if_true,c2,c3,gF,fp,iv,beq_self_eq_true,aR,bj,bl,aP,CI]
 unfold DU
 by_cases h:aN a<aN e
 ·rw[if_pos (by simpa using h),if_pos h];rfl
 ·rw[if_neg (by simpa using h),if_neg h]
  have hll:(aK (aN e)).length<=(aK (aN a)).length:=by
   rcases Nat.lt_or_ge (aK (aN a)).length (aK (aN e)).length with h' | h'
   ·exact absurd (su h') h
   ·exact h'
  have:=Gc (aK (aN a)) (aK (aN e)) (cd _) (cd _) (by omega) (by omega) hll (by rw[bY,bY];omega) (aK (aN a)).length 0 [] 0 (by omega) cP.nil rfl (by decide) (by simp[aN])
  rw[bY,bY,List.nil_append,List.drop_zero,Int.natCast_zero]at this
  rw[this];rfl
end Go.Dn.Dec
namespace Go.Proofs
open Go.Shelf
def Tryz.lays161_ren:Go.Shelf.Ren:=⟨fun|161=>183|231=>209|227=>171|233=>210|235=>211|228=>200|197=>220|151=>202|260=>229|152=>221|137=>85|119=>230|224=>205|225=>204|217=>135|266=>180|n=>n,fun|9=>9|4=>4|3=>3|5=>5|117=>194|116=>193|0=>0|124=>197|105=>218|21=>21|119=>242|46=>144|139=>245|138=>244|n=>n,fun|3=>6|4=>7|n=>n⟩
theorem Tryz.lays161:Go.Proofs.Lays.n161 Tryz.prog Tryz.lays161_ren:={
 mixed:=by kernel_rfl
 f119:=Tryz.func230.trans (congrArg some (by kernel_rfl))
 f137:=Tryz.func85.trans (congrArg some (by kernel_rfl))
 f151:=Tryz.func202.trans (congrArg some (by kernel_rfl))
 f152:=Tryz.func221.trans (congrArg some (by kernel_rfl))
 f161:=Tryz.func183.trans (congrArg some (by kernel_rfl))
 f197:=Tryz.func220.trans (congrArg some (by kernel_rfl))
 f217:=Tryz.func135.trans (congrArg some (by kernel_rfl))
 f224:=Tryz.func205.trans (congrArg some (by kernel_rfl))
 f225:=Tryz.func204.trans (congrArg some (by kernel_rfl))
 f227:=Tryz.func171.trans (congrArg some (by kernel_rfl))
 f228:=Tryz.func200.trans (congrArg some (by kernel_rfl))
 f231:=Tryz.func209.trans (congrArg some (by kernel_rfl))
 f233:=Tryz.func210.trans (congrArg some (by kernel_rfl))
 f235:=Tryz.func211.trans (congrArg some (by kernel_rfl))
 f260:=Tryz.func229.trans (congrArg some (by kernel_rfl))
 f266:=Tryz.func180.trans (congrArg some (by kernel_rfl))
 t0:=Tryz.underlying0
 a0:=Tryz.isAgg0
 z0:=Tryz.sizeOf0
 v0:=Tryz.zeroValue0
 t3:=Tryz.underlying3
 a3:=Tryz.isAgg3
 z3:=Tryz.sizeOf3
 v3:=Tryz.zeroValue3
 t4:=Tryz.underlying4
 a4:=Tryz.isAgg4
 z4:=Tryz.sizeOf4
 v4:=Tryz.zeroValue4
 t5:=Tryz.underlying5
 a5:=Tryz.isAgg5
 z5:=Tryz.sizeOf5
 v5:=Tryz.zeroValue5
 t9:=Tryz.underlying9
 a9:=Tryz.isAgg9
 z9:=Tryz.sizeOf9
 v9:=Tryz.zeroValue9
 t21:=Tryz.underlying21
 a21:=Tryz.isAgg21
 z21:=Tryz.sizeOf21
 v21:=Tryz.zeroValue21
 t46:=Tryz.underlying144
 a46:=Tryz.isAgg144
 z46:=Tryz.sizeOf144
 v46:=Tryz.zeroValue144
 t105:=Tryz.underlying218
 a105:=Tryz.isAgg218
 z105:=Tryz.sizeOf218
 v105:=Tryz.zeroValue218
 t116:=Tryz.underlying193
 a116:=Tryz.isAgg193
 z116:=Tryz.sizeOf193
 t117:=Tryz.underlying194
 a117:=Tryz.isAgg194
 z117:=Tryz.sizeOf194
 v117:=Tryz.zeroValue194
 t119:=Tryz.underlying242
 a119:=Tryz.isAgg242
 z119:=Tryz.sizeOf242
 t124:=Tryz.underlying197
 a124:=Tryz.isAgg197
 z124:=Tryz.sizeOf197
 v124:=Tryz.zeroValue197
 t138:=Tryz.underlying244
 a138:=Tryz.isAgg244
 z138:=Tryz.sizeOf244
 v138:=Tryz.zeroValue244
 t139:=Tryz.underlying245
 a139:=Tryz.isAgg245
 z139:=Tryz.sizeOf245
 v139:=Tryz.zeroValue245
 g3:=by kernel_rfl
 g4:=by kernel_rfl }
open Go.RowKit in
theorem Tryz.strings_TrimLeft_one(s:ByteArray)(c:UInt8)(hc:c.toNat<128)(w:World):
  Calls Tryz.prog 183 #[.string s,.string ⟨#[c]⟩] w fun e w'=>e = .returned (.string ⟨(Lib.trimLeftB s.data.toList c).toArray⟩)/\w'=w:=Any.strings_TrimLeft_one Tryz.lays161 s c hc w
def Tryz.lays162_ren:Go.Shelf.Ren:=⟨fun|162=>117|232=>170|227=>171|234=>172|236=>173|228=>200|271=>201|151=>202|120=>219|197=>220|152=>221|260=>229|137=>85|119=>230|224=>205|225=>204|217=>135|266=>180|n=>n,fun|9=>9|4=>4|3=>3|5=>5|117=>194|116=>193|0=>0|124=>197|21=>21|105=>218|46=>144|119=>242|139=>245|138=>244|n=>n,fun|3=>6|4=>7|n=>n⟩
theorem Tryz.lays162:Go.Proofs.Lays.n162 Tryz.prog Tryz.lays162_ren:={
 mixed:=by kernel_rfl
 f119:=Tryz.func230.trans (congrArg some (by kernel_rfl))
 f120:=Tryz.func219.trans (congrArg some (by kernel_rfl))
 f137:=Tryz.func85.trans (congrArg some (by kernel_rfl))
 f151:=Tryz.func202.trans (congrArg some (by kernel_rfl))
 f152:=Tryz.func221.trans (congrArg some (by kernel_rfl))
 f162:=Tryz.func117.trans (congrArg some (by kernel_rfl))
 f197:=Tryz.func220.trans (congrArg some (by kernel_rfl))
 f217:=Tryz.func135.trans (congrArg some (by kernel_rfl))
 f224:=Tryz.func205.trans (congrArg some (by kernel_rfl))
 f225:=Tryz.func204.trans (congrArg some (by kernel_rfl))
 f227:=Tryz.func171.trans (congrArg some (by kernel_rfl))
 f228:=Tryz.func200.trans (congrArg some (by kernel_rfl))
 f232:=Tryz.func170.trans (congrArg some (by kernel_rfl))
 f234:=Tryz.func172.trans (congrArg some (by kernel_rfl))
 f236:=Tryz.func173.trans (congrArg some (by kernel_rfl))
 f260:=Tryz.func229.trans (congrArg some (by kernel_rfl))
 f266:=Tryz.func180.trans (congrArg some (by kernel_rfl))
 f271:=Tryz.func201.trans (congrArg some (by kernel_rfl))
 t0:=Tryz.underlying0
 a0:=Tryz.isAgg0
 z0:=Tryz.sizeOf0
 v0:=Tryz.zeroValue0
 t3:=Tryz.underlying3
 a3:=Tryz.isAgg3
 z3:=Tryz.sizeOf3
 v3:=Tryz.zeroValue3
 t4:=Tryz.underlying4
 a4:=Tryz.isAgg4
 z4:=Tryz.sizeOf4
 v4:=Tryz.zeroValue4
 t5:=Tryz.underlying5
 a5:=Tryz.isAgg5
 z5:=Tryz.sizeOf5
 v5:=Tryz.zeroValue5
 t9:=Tryz.underlying9
 a9:=Tryz.isAgg9
 z9:=Tryz.sizeOf9
 v9:=Tryz.zeroValue9
 t21:=Tryz.underlying21
 a21:=Tryz.isAgg21
 z21:=Tryz.sizeOf21
 v21:=Tryz.zeroValue21
 t46:=Tryz.underlying144
 a46:=Tryz.isAgg144
 z46:=Tryz.sizeOf144
 v46:=Tryz.zeroValue144
 t105:=Tryz.underlying218
 a105:=Tryz.isAgg218
 z105:=Tryz.sizeOf218
 v105:=Tryz.zeroValue218
 t116:=Tryz.underlying193
 a116:=Tryz.isAgg193
 z116:=Tryz.sizeOf193
 t117:=Tryz.underlying194
 a117:=Tryz.isAgg194
 z117:=Tryz.sizeOf194
 v117:=Tryz.zeroValue194
 t119:=Tryz.underlying242
 a119:=Tryz.isAgg242
 z119:=Tryz.sizeOf242
 t124:=Tryz.underlying197
 a124:=Tryz.isAgg197
 z124:=Tryz.sizeOf197
 v124:=Tryz.zeroValue197
 t138:=Tryz.underlying244
 a138:=Tryz.isAgg244
 z138:=Tryz.sizeOf244
 v138:=Tryz.zeroValue244
 t139:=Tryz.underlying245
 a139:=Tryz.isAgg245
 z139:=Tryz.sizeOf245
 v139:=Tryz.zeroValue245
 g3:=by kernel_rfl
 g4:=by kernel_rfl }
open Go.RowKit in
theorem Tryz.strings_TrimRight_one(s:ByteArray)(c:UInt8)(hc:c.toNat<128)(w:World)(hs:s.size<=9223372036854775807):
  Calls Tryz.prog 117 #[.string s,.string ⟨#[c]⟩] w fun e w'=>e = .returned (.string ⟨(Lib.trimRightB s.data.toList c).toArray⟩)/\w'=w:=Any.strings_TrimRight_one Tryz.lays162 s c hc w hs
def Tryz.lays128_ren:Go.Shelf.Ren:=⟨fun|128=>163|n=>n,fun|51=>147|3=>3|4=>4|46=>144|5=>5|9=>9|n=>n,fun|n=>n⟩
theorem Tryz.lays128:Go.Proofs.Lays.n128 Tryz.prog Tryz.lays128_ren:={
 mixed:=by kernel_rfl
 f128:=Tryz.func163.trans (congrArg some (by kernel_rfl))
 t3:=Tryz.underlying3
 a3:=Tryz.isAgg3
 z3:=Tryz.sizeOf3
 v3:=Tryz.zeroValue3
 t4:=Tryz.underlying4
 a4:=Tryz.isAgg4
 z4:=Tryz.sizeOf4
 v4:=Tryz.zeroValue4
 t5:=Tryz.underlying5
 a5:=Tryz.isAgg5
 z5:=Tryz.sizeOf5
 v5:=Tryz.zeroValue5
 t9:=Tryz.underlying9
 a9:=Tryz.isAgg9
 z9:=Tryz.sizeOf9
 v9:=Tryz.zeroValue9
 t46:=Tryz.underlying144
 a46:=Tryz.isAgg144
 z46:=Tryz.sizeOf144
 v46:=Tryz.zeroValue144
 t51:=Tryz.underlying147
 a51:=Tryz.isAgg147
 z51:=Tryz.sizeOf147
 v51:=Tryz.zeroValue147 }
theorem Tryz.bits_Len32(x:Int)(w:World)(h0:0<=x)(h1:x<=4294967295):
  Calls Tryz.prog 163 #[.int .u32 x] w fun e w'=>e = .returned (.int .i64 (Lib.bitLen x.toNat))/\w'=w:=Any.bits_Len32 Tryz.lays128 x w h0 h1
def Tryz.lays137_ren:Go.Shelf.Ren:=⟨fun|137=>85|217=>135|266=>180|n=>n,fun|9=>9|5=>5|3=>3|n=>n,fun|n=>n⟩
theorem Tryz.lays137:Go.Proofs.Lays.n137 Tryz.prog Tryz.lays137_ren:={
 mixed:=by kernel_rfl
 f137:=Tryz.func85.trans (congrArg some (by kernel_rfl))
 f217:=Tryz.func135.trans (congrArg some (by kernel_rfl))
 f266:=Tryz.func180.trans (congrArg some (by kernel_rfl))
 t3:=Tryz.underlying3
 a3:=Tryz.isAgg3
 z3:=Tryz.sizeOf3
 v3:=Tryz.zeroValue3
 t5:=Tryz.underlying5
 a5:=Tryz.isAgg5
 z5:=Tryz.sizeOf5
 v5:=Tryz.zeroValue5
 t9:=Tryz.underlying9
 a9:=Tryz.isAgg9
 z9:=Tryz.sizeOf9
 v9:=Tryz.zeroValue9 }
open Go.RowKit in
theorem Tryz.strings_IndexByte(s:ByteArray)(c:Int)(w:World):
  Calls Tryz.prog 85 #[.string s,.int .u8 c] w fun e w'=>e = .returned (.int .i64 (Lib.indexByte s.data.toList c.toNat.toUInt8))/\w'=w:=Any.strings_IndexByte Tryz.lays137 s c w
def Tryz.lays283_ren:Go.Shelf.Ren:=⟨fun|283=>156|n=>n,fun|3=>3|9=>9|4=>4|n=>n,fun|n=>n⟩
theorem Tryz.lays283:Go.Proofs.Lays.n283 Tryz.prog Tryz.lays283_ren:={
 mixed:=by kernel_rfl
 f283:=Tryz.func156.trans (congrArg some (by kernel_rfl))
 t3:=Tryz.underlying3
 a3:=Tryz.isAgg3
 z3:=Tryz.sizeOf3
 v3:=Tryz.zeroValue3
 t4:=Tryz.underlying4
 a4:=Tryz.isAgg4
 z4:=Tryz.sizeOf4
 v4:=Tryz.zeroValue4
 t9:=Tryz.underlying9
 a9:=Tryz.isAgg9
 z9:=Tryz.sizeOf9
 v9:=Tryz.zeroValue9 }
open Go.Lib in
theorem Tryz.internal_strconv_small(i:Nat)(h:i<100)(w:World):
  Calls Tryz.prog 156 #[.int .i64 i] w fun e w'=>e = .returned (.string ⟨(Lib.decDigits i).toArray⟩)/\w'=w:=Any.internal_strconv_small Tryz.lays283 i h w
def Tryz.laysM284_ren:Go.Shelf.Ren:=⟨fun|284=>157|129=>191|317=>190|318=>192|n=>n,fun|53=>49|3=>3|212=>214|0=>0|4=>4|46=>144|5=>5|9=>9|n=>n,fun|17=>0|n=>n⟩
theorem Tryz.laysM284:Go.Proofs.LaysM.n284 Tryz.prog Tryz.laysM284_ren:={
 mixed:=by kernel_rfl
 f129:=Tryz.func191.trans (congrArg some (by kernel_rfl))
 f284:=Tryz.func157.trans (congrArg some (by kernel_rfl))
 f317:=Tryz.func190.trans (congrArg some (by kernel_rfl))
 f318:=Tryz.func192.trans (congrArg some (by kernel_rfl))
 t0:=Tryz.underlying0
 a0:=Tryz.isAgg0
 z0:=Tryz.sizeOf0
 v0:=Tryz.zeroValue0
 t3:=Tryz.underlying3
 a3:=Tryz.isAgg3
 z3:=Tryz.sizeOf3
 v3:=Tryz.zeroValue3
 t4:=Tryz.underlying4
 a4:=Tryz.isAgg4
 z4:=Tryz.sizeOf4
 v4:=Tryz.zeroValue4
 t5:=Tryz.underlying5
 a5:=Tryz.isAgg5
 z5:=Tryz.sizeOf5
 v5:=Tryz.zeroValue5
 t9:=Tryz.underlying9
 a9:=Tryz.isAgg9
 z9:=Tryz.sizeOf9
 v9:=Tryz.zeroValue9
 t46:=Tryz.underlying144
 a46:=Tryz.isAgg144
 z46:=Tryz.sizeOf144
 v46:=Tryz.zeroValue144
 t53:=Tryz.underlying49
 a53:=Tryz.isAgg49
 z53:=Tryz.sizeOf49
 v53:=Tryz.zeroValue49
 t212:=Tryz.underlying214
 a212:=Tryz.isAgg214
 z212:=Tryz.sizeOf214
 v212:=Tryz.zeroValue214
 g17:=by kernel_rfl
 i0:=by kernel_rfl
 i3:=by kernel_rfl
 i4:=by kernel_rfl
 i5:=by kernel_rfl
 i9:=by kernel_rfl
 i46:=by kernel_rfl
 i53:=by kernel_rfl
 i212:=by kernel_rfl
 m17:=by kernel_rfl }
open Go.Lib in
theorem Tryz.internal_strconv_numDigits (u : Nat) (h1 : 1 ≤ u) (h2 : u < 18446744073709551616) (w : World) (htab : Lib.TabIs Tryz.prog w "internal/strconv.uint64pow10" .u64 Lib.pow10Tab) :
  Calls Tryz.prog 157 #[.int .u64 u] w fun e w'=>e = .returned (.int .i64 (Lib.nDigits u))/\w'=w:=Any.internal_strconv_numDigits Tryz.laysM284 u h1 h2 w htab
def Tryz.lays285_ren:Go.Shelf.Ren:=⟨fun|285=>158|n=>n,fun|37=>22|53=>49|3=>3|4=>4|51=>147|9=>9|5=>5|0=>0|n=>n,fun|n=>n⟩
theorem Tryz.lays285:Go.Proofs.Lays.n285 Tryz.prog Tryz.lays285_ren:={
 mixed:=by kernel_rfl
 f285:=Tryz.func158.trans (congrArg some (by kernel_rfl))
 t0:=Tryz.underlying0
 a0:=Tryz.isAgg0
 z0:=Tryz.sizeOf0
 v0:=Tryz.zeroValue0
 t3:=Tryz.underlying3
 a3:=Tryz.isAgg3
 z3:=Tryz.sizeOf3
 v3:=Tryz.zeroValue3
 t4:=Tryz.underlying4
 a4:=Tryz.isAgg4
 z4:=Tryz.sizeOf4
 v4:=Tryz.zeroValue4
 t5:=Tryz.underlying5
 a5:=Tryz.isAgg5
 z5:=Tryz.sizeOf5
 v5:=Tryz.zeroValue5
 t9:=Tryz.underlying9
 a9:=Tryz.isAgg9
 z9:=Tryz.sizeOf9
 v9:=Tryz.zeroValue9
 t37:=Tryz.underlying22
 a37:=Tryz.isAgg22
 z37:=Tryz.sizeOf22
 v37:=Tryz.zeroValue22
 t51:=Tryz.underlying147
 a51:=Tryz.isAgg147
 z51:=Tryz.sizeOf147
 v51:=Tryz.zeroValue147
 t53:=Tryz.underlying49
 a53:=Tryz.isAgg49
 z53:=Tryz.sizeOf49
 v53:=Tryz.zeroValue49 }
open Go.RowKit Go.Sort Go.Lib in
theorem Tryz.internal_strconv_formatBase10(blk off cap:Nat)(u:Nat)(d:Array UInt8)(w:World)(hH:Holds (fun(b:UInt8)=>Value.int .u8 (b.toNat:Int)) w blk off d)(hu:u<10^d.size)(hu64:u<18446744073709551616)(hsz:d.size<4611686018427387904):
  Calls Tryz.prog 158 #[.slice (some ⟨blk,off,none⟩) d.size cap,.int .u64 u] w fun e w'=>
   e = .returned (.tuple #[])/\∃(n v':Nat) (dk:Array UInt8),w'=(putRow (fun(b:UInt8)=>Value.int .u8 (b.toNat:Int)) w blk off dk).drewN n/\FmtInv d.size u 0 v' dk:=Any.internal_strconv_formatBase10 Tryz.lays285 blk off cap u d w hH hu hu64 hsz
def Tryz.laysM171_ren:Go.Shelf.Ren:=⟨fun|171=>118|243=>174|246=>111|283=>156|284=>157|285=>158|286=>159|129=>191|317=>190|318=>192|319=>193|320=>194|337=>216|338=>217|n=>n,fun|3=>3|9=>9|2=>2|4=>4|171=>184|0=>0|53=>49|37=>22|5=>5|173=>187|212=>214|51=>147|20=>20|213=>215|46=>144|232=>236|233=>237|n=>n,fun|17=>0|18=>2|19=>3|n=>n⟩
theorem Tryz.laysM171:Go.Proofs.LaysM.n171 Tryz.prog Tryz.laysM171_ren:={
 mixed:=by kernel_rfl
 f129:=Tryz.func191.trans (congrArg some (by kernel_rfl))
 f171:=Tryz.func118.trans (congrArg some (by kernel_rfl))
 f243:=Tryz.func174.trans (congrArg some (by kernel_rfl))
 f246:=Tryz.func111.trans (congrArg some (by kernel_rfl))
 f283:=Tryz.func156.trans (congrArg some (by kernel_rfl))
 f284:=Tryz.func157.trans (congrArg some (by kernel_rfl))
 f285:=Tryz.func158.trans (congrArg some (by kernel_rfl))
 f286:=Tryz.func159.trans (congrArg some (by kernel_rfl))
 f317:=Tryz.func190.trans (congrArg some (by kernel_rfl))
 f318:=Tryz.func192.trans (congrArg some (by kernel_rfl))
 f319:=Tryz.func193.trans (congrArg some (by kernel_rfl))
 f320:=Tryz.func194.trans (congrArg some (by kernel_rfl))
 f337:=Tryz.func216.trans (congrArg some (by kernel_rfl))
 f338:=Tryz.func217.trans (congrArg some (by kernel_rfl))
 t0:=Tryz.underlying0
 a0:=Tryz.isAgg0
 z0:=Tryz.sizeOf0
 v0:=Tryz.zeroValue0
 t2:=Tryz.underlying2
 a2:=Tryz.isAgg2
 z2:=Tryz.sizeOf2
 v2:=Tryz.zeroValue2
 t3:=Tryz.underlying3
 a3:=Tryz.isAgg3
 z3:=Tryz.sizeOf3
 v3:=Tryz.zeroValue3
 t4:=Tryz.underlying4
 a4:=Tryz.isAgg4
 z4:=Tryz.sizeOf4
 v4:=Tryz.zeroValue4
 t5:=Tryz.underlying5
 a5:=Tryz.isAgg5
 z5:=Tryz.sizeOf5
 v5:=Tryz.zeroValue5
 t9:=Tryz.underlying9
 a9:=Tryz.isAgg9
 z9:=Tryz.sizeOf9
 v9:=Tryz.zeroValue9
 t20:=Tryz.underlying20
 a20:=Tryz.isAgg20
 z20:=Tryz.sizeOf20
 v20:=Tryz.zeroValue20
 t37:=Tryz.underlying22
 a37:=Tryz.isAgg22
 z37:=Tryz.sizeOf22
 v37:=Tryz.zeroValue22
 t46:=Tryz.underlying144
 a46:=Tryz.isAgg144
 z46:=Tryz.sizeOf144
 v46:=Tryz.zeroValue144
 t51:=Tryz.underlying147
 a51:=Tryz.isAgg147
 z51:=Tryz.sizeOf147
 v51:=Tryz.zeroValue147
 t53:=Tryz.underlying49
 a53:=Tryz.isAgg49
 z53:=Tryz.sizeOf49
 v53:=Tryz.zeroValue49
 t171:=Tryz.underlying184
 a171:=Tryz.isAgg184
 z171:=Tryz.sizeOf184
 v171:=Tryz.zeroValue184
 t173:=Tryz.underlying187
 a173:=Tryz.isAgg187
 z173:=Tryz.sizeOf187
 v173:=Tryz.zeroValue187
 t212:=Tryz.underlying214
 a212:=Tryz.isAgg214
 z212:=Tryz.sizeOf214
 v212:=Tryz.zeroValue214
 t213:=Tryz.underlying215
 a213:=Tryz.isAgg215
 z213:=Tryz.sizeOf215
 t232:=Tryz.underlying236
 a232:=Tryz.isAgg236
 z232:=Tryz.sizeOf236
 v232:=Tryz.zeroValue236
 t233:=Tryz.underlying237
 a233:=Tryz.isAgg237
 z233:=Tryz.sizeOf237
 v233:=Tryz.zeroValue237
 g17:=by kernel_rfl
 g18:=by kernel_rfl
 g19:=by kernel_rfl
 i0:=by kernel_rfl
 i2:=by kernel_rfl
 i3:=by kernel_rfl
 i4:=by kernel_rfl
 i5:=by kernel_rfl
 i9:=by kernel_rfl
 i20:=by kernel_rfl
 i37:=by kernel_rfl
 i46:=by kernel_rfl
 i51:=by kernel_rfl
 i53:=by kernel_rfl
 i171:=by kernel_rfl
 i173:=by kernel_rfl
 i212:=by kernel_rfl
 i232:=by kernel_rfl
 i233:=by kernel_rfl
 m17:=by kernel_rfl
 m18:=by kernel_rfl
 m19:=by kernel_rfl }
open Go.RowKit Go.Sort Go.Lib in
theorem Tryz.strconv_Itoa (n : Int) (h0 : -9223372036854775808 ≤ n) (h1 : n ≤ 9223372036854775807) (w : World) (htab : Lib.TabIs Tryz.prog w "internal/strconv.uint64pow10" .u64 Lib.pow10Tab) :
  Calls Tryz.prog 118 #[.int .i64 n] w fun e w'=>e = .returned (.string ⟨(Lib.itoa n).toArray⟩)/\∃k os,w'=grow (w.drewN k) os:=Any.strconv_Itoa Tryz.laysM171 n h0 h1 w htab
def Tryz.lays143_ren:Go.Shelf.Ren:=⟨fun|143=>123|219=>177|217=>135|225=>204|224=>205|267=>206|266=>180|314=>222|n=>n,fun|9=>9|3=>3|4=>4|5=>5|46=>144|146=>229|51=>147|n=>n,fun|1=>1|n=>n⟩
theorem Tryz.lays143:Go.Proofs.Lays.n143 Tryz.prog Tryz.lays143_ren:={
 mixed:=by kernel_rfl
 f143:=Tryz.func123.trans (congrArg some (by kernel_rfl))
 f217:=Tryz.func135.trans (congrArg some (by kernel_rfl))
 f219:=Tryz.func177.trans (congrArg some (by kernel_rfl))
 f224:=Tryz.func205.trans (congrArg some (by kernel_rfl))
 f225:=Tryz.func204.trans (congrArg some (by kernel_rfl))
 f266:=Tryz.func180.trans (congrArg some (by kernel_rfl))
 f267:=Tryz.func206.trans (congrArg some (by kernel_rfl))
 f314:=Tryz.func222.trans (congrArg some (by kernel_rfl))
 t3:=Tryz.underlying3
 a3:=Tryz.isAgg3
 z3:=Tryz.sizeOf3
 v3:=Tryz.zeroValue3
 t4:=Tryz.underlying4
 a4:=Tryz.isAgg4
 z4:=Tryz.sizeOf4
 v4:=Tryz.zeroValue4
 t5:=Tryz.underlying5
 a5:=Tryz.isAgg5
 z5:=Tryz.sizeOf5
 v5:=Tryz.zeroValue5
 t9:=Tryz.underlying9
 a9:=Tryz.isAgg9
 z9:=Tryz.sizeOf9
 v9:=Tryz.zeroValue9
 t46:=Tryz.underlying144
 a46:=Tryz.isAgg144
 z46:=Tryz.sizeOf144
 v46:=Tryz.zeroValue144
 t51:=Tryz.underlying147
 a51:=Tryz.isAgg147
 z51:=Tryz.sizeOf147
 v51:=Tryz.zeroValue147
 t146:=Tryz.underlying229
 a146:=Tryz.isAgg229
 z146:=Tryz.sizeOf229
 v146:=Tryz.zeroValue229
 g1:=by kernel_rfl }
open Go.RowKit Go.Lib in
theorem Tryz.strings_Index(s sub:ByteArray)(m:Int)(w:World)(hs:s.size<4294967281)(hm:w.cell? ⟨1,0,none⟩=some (.int .i64 m)):
  Calls Tryz.prog 123 #[.string s,.string sub] w fun e w'=>e = .returned (.int .i64 (Lib.index s.data.toList sub.data.toList))/\w'=w:=Any.strings_Index Tryz.lays143 s sub m w hs hm
def Tryz.lays144_ren:Go.Shelf.Ren:=⟨fun|144=>57|143=>123|219=>177|217=>135|225=>204|224=>205|267=>206|266=>180|314=>222|n=>n,fun|9=>9|4=>4|3=>3|5=>5|46=>144|146=>229|51=>147|n=>n,fun|1=>1|n=>n⟩
theorem Tryz.lays144:Go.Proofs.Lays.n144 Tryz.prog Tryz.lays144_ren:={
 mixed:=by kernel_rfl
 f143:=Tryz.func123.trans (congrArg some (by kernel_rfl))
 f144:=Tryz.func57.trans (congrArg some (by kernel_rfl))
 f217:=Tryz.func135.trans (congrArg some (by kernel_rfl))
 f219:=Tryz.func177.trans (congrArg some (by kernel_rfl))
 f224:=Tryz.func205.trans (congrArg some (by kernel_rfl))
 f225:=Tryz.func204.trans (congrArg some (by kernel_rfl))
 f266:=Tryz.func180.trans (congrArg some (by kernel_rfl))
 f267:=Tryz.func206.trans (congrArg some (by kernel_rfl))
 f314:=Tryz.func222.trans (congrArg some (by kernel_rfl))
 t3:=Tryz.underlying3
 a3:=Tryz.isAgg3
 z3:=Tryz.sizeOf3
 v3:=Tryz.zeroValue3
 t4:=Tryz.underlying4
 a4:=Tryz.isAgg4
 z4:=Tryz.sizeOf4
 v4:=Tryz.zeroValue4
 t5:=Tryz.underlying5
 a5:=Tryz.isAgg5
 z5:=Tryz.sizeOf5
 v5:=Tryz.zeroValue5
 t9:=Tryz.underlying9
 a9:=Tryz.isAgg9
 z9:=Tryz.sizeOf9
 v9:=Tryz.zeroValue9
 t46:=Tryz.underlying144
 a46:=Tryz.isAgg144
 z46:=Tryz.sizeOf144
 v46:=Tryz.zeroValue144
 t51:=Tryz.underlying147
 a51:=Tryz.isAgg147
 z51:=Tryz.sizeOf147
 v51:=Tryz.zeroValue147
 t146:=Tryz.underlying229
 a146:=Tryz.isAgg229
 z146:=Tryz.sizeOf229
 v146:=Tryz.zeroValue229
 g1:=by kernel_rfl }
open Go.RowKit Go.Lib in
theorem Tryz.strings_Contains(s sub:ByteArray)(m:Int)(w:World)(hs:s.size<4294967281)(hm:w.cell? ⟨1,0,none⟩=some (.int .i64 m)):
  Calls Tryz.prog 57 #[.string s,.string sub] w fun e w'=>e = .returned (.bool (Lib.contains s.data.toList sub.data.toList))/\w'=w:=Any.strings_Contains Tryz.lays144 s sub m w hs hm
def Tryz.lays100_ren:Go.Shelf.Ren:=⟨fun|100=>138|207=>181|n=>n,fun|9=>9|4=>4|3=>3|n=>n,fun|n=>n⟩
theorem Tryz.lays100:Go.Proofs.Lays.n100 Tryz.prog Tryz.lays100_ren:={
 mixed:=by kernel_rfl
 f100:=Tryz.func138.trans (congrArg some (by kernel_rfl))
 f207:=Tryz.func181.trans (congrArg some (by kernel_rfl))
 t3:=Tryz.underlying3
 a3:=Tryz.isAgg3
 z3:=Tryz.sizeOf3
 v3:=Tryz.zeroValue3
 t4:=Tryz.underlying4
 a4:=Tryz.isAgg4
 z4:=Tryz.sizeOf4
 v4:=Tryz.zeroValue4
 t9:=Tryz.underlying9
 a9:=Tryz.isAgg9
 z9:=Tryz.sizeOf9
 v9:=Tryz.zeroValue9 }
open Go.RowKit Go.Lib in
theorem Tryz.strings_HasSuffix(s p:ByteArray)(w:World)(hs:s.size<=9223372036854775807):
  Calls Tryz.prog 138 #[.string s,.string p] w fun e w'=>e = .returned (.bool (Lib.hasSuffix s.data.toList p.data.toList))/\w'=w:=Any.strings_HasSuffix Tryz.lays100 s p w hs
end Go.Proofs
namespace Go.Proofs
open Go.Shelf Go.RowKit Go.Sort Go.Lib
set_option maxRecDepth 100000 in
theorem Tryz.internal_FormatUint_10(u:Nat)(hu64:u<18446744073709551616)(w:World)
  (htab : Lib.TabIs Tryz.prog w "internal/strconv.uint64pow10" .u64 Lib.pow10Tab) :
  Calls Tryz.prog 197 #[.int .u64 u,.int .i64 10] w fun e w'=>e = .returned (.string ⟨(Lib.decDigits u).toArray⟩)/\∃k os,w'=grow (w.drewN k) os:=by
 by_cases hs:u<100
 ·have h100:(u:Int)<100:=by omega
  have hw:IntKind.i64.wrap (u:Int)=(u:Int):=by rw[IntKind.wrap_i64];omega
  go_enter Tryz.func197,Tryz.ntmps197
  go_wp2_with (go_at_call 156;refine(Tryz.internal_strconv_small u hs _).mono ?_;rintro e w' ⟨rfl,rfl⟩)
  go_ret
  refine⟨rfl,0,#[],by simp[World.drewN_zero]⟩
 ·have h100:¬(u:Int)<100:=by omega
  have hu1:1<=u:=by omega
  have hnd20:Lib.nDigits u<=20:=by have:=Lib.numDigits_eq u hu1 hu64;split at this<;>omega
  have hb3:Lib.nDigits u<=24:=by omega
  have hal:Tryz.prog.arrayLen 184=24:=by simp[Program.arrayLen,Tryz.underlying184]
  have hsl1:∀W,(Instr.sliceAt 184 (.pointer (some ⟨w.heap.size,0,none⟩)) none (some (.int .i64 (Lib.nDigits u:Int))) none).run Tryz.prog W = .ok (.slice (some ⟨w.heap.size,0,none⟩) (Lib.nDigits u) 24) W:=fun W=>by
   rw[run_sliceAt_array_h W 184 ⟨w.heap.size,0,none⟩ (by simp[Program.arrayLen,Program.elem,Tryz.underlying184]) .i64 (Lib.nDigits u:Int) (by omega) (by rw[hal];omega)]
   go_simp
  have hH0:=Lib.holds_zero0 w 184 (Lib.nDigits u) (by omega)
  have hfmt:=Tryz.internal_strconv_formatBase10 w.heap.size 0 24 u (Array.replicate (Lib.nDigits u) 0) (w.alloc (.cells Lib.zeros24 184)) hH0 (by rw[Array.size_replicate];exact Lib.lt_pow_nDigits u) hu64 (by rw[Array.size_replicate];omega)
  rw[Array.size_replicate]at hfmt
  have HH0:=Lib.hid hH0
  clear hH0 hal
  go_enter Tryz.func197,Tryz.ntmps197
  go_wp2_with (go_at_call 157;refine(Tryz.internal_strconv_numDigits u hu1 hu64 _ (Lib.tabIs_alloc htab _)).mono ?_;rintro e w' ⟨rfl,rfl⟩)
  go_at_call 158
  refine hfmt.mono ?_
  rintro e w' ⟨rfl,k,v',dk,rfl,hF⟩
  have hcv:(convert 22 9 (.slice (some ⟨w.heap.size,0,none⟩) (Lib.nDigits u) 24)).run Tryz.prog ((putRow (fun(b:UInt8)=>Value.int .u8 (b.toNat:Int)) (w.alloc (.cells Lib.zeros24 184)) w.heap.size 0 dk).drewN k) = .ok (.string ⟨(Lib.decDigits u).toArray⟩) ((putRow (fun(b:UInt8)=>Value.int .u8 (b.toNat:Int)) (w.alloc (.cells Lib.zeros24 184)) w.heap.size 0 dk).drewN k):=by
   have h:=run_convert_bytes_back (P:=Tryz.prog) ((putRow (fun(b:UInt8)=>Value.int .u8 (b.toNat:Int)) (w.alloc (.cells Lib.zeros24 184)) w.heap.size 0 dk).drewN k) 22 9 5 ⟨w.heap.size,0,none⟩ 24 (Lib.decDigits u) Tryz.underlying22 Tryz.underlying5 Tryz.underlying9 (fun j hj=>by
    rw[Lib.row_is_numeral hF j hj,Lib.add_plain,World.cell?_drewN]
    exact cell?_putRow (fun(b:UInt8)=>Value.int .u8 (b.toNat:Int)) _ w.heap.size 0 _ dk HH0.out (by rw[hF.size,Array.size_replicate]) j (by rw[hF.size];rw[Lib.decDigits_length]at hj;exact hj))
   rw[Lib.decDigits_length]at h
   exact h
  go_wp2
  go_ret
  refine⟨rfl,k,?_⟩
  rw[alloc_eq_grow]
  obtain⟨os',_,e⟩:=putRow_grow_new (fun(b:UInt8)=>Value.int .u8 (b.toNat:Int)) w #[.cells Lib.zeros24 184] w.heap.size 0 dk (Nat.le_refl _)
  exact⟨os',by rw[e];rfl⟩
theorem Tryz.strconv_FormatUint_10(u:Nat)(hu64:u<18446744073709551616)(w:World)
  (htab : Lib.TabIs Tryz.prog w "internal/strconv.uint64pow10" .u64 Lib.pow10Tab) :
  Calls Tryz.prog 167 #[.int .u64 u,.int .i64 10] w fun e w'=>e = .returned (.string ⟨(Lib.decDigits u).toArray⟩)/\∃k os,w'=grow (w.drewN k) os:=by
 go_enter Tryz.func167,Tryz.ntmps167
 go_wp2_with (go_at_call 197;refine(Tryz.internal_FormatUint_10 u hu64 _ htab).mono ?_;rintro e w' ⟨rfl,k,os,rfl⟩)
 go_ret
 exact⟨rfl,k,os,rfl⟩
end Go.Proofs
namespace Go.Dn.Dec
open Go.Proofs
theorem zO(a:List Int):iR .u32 (ints .u32 a)=some a:=by
 induction a with
 |nil=>rfl
 |cons z a ih=>
  rw[uI,iR,if_pos rfl,ih];rfl
theorem BB{a:List Int}(h:cP a):(a.all fun z=>decide (0<=z)&&decide (z<4294967296))=true:=by
 rw[List.all_eq_true]
 intro z hz
 have:=h z hz
 simp[this.1,this.2]
theorem JL(b c:Bool)(x y:Nat)(hx:Fits x)(hy:Fits y):rk Tryz.prog aE (Task.call 218 [V.d (D.l b (ws x)),V.d (D.l c (ws y))] [])=some (DU x y,[]):=by
 rw[eQ (g:=s5) rfl]
 have lx:=hx.len
 have ly:=hy.len
 simp only[s5,ws,zO]
 rw[if_pos ⟨BB (cd x),BB (cd y),by omega,by omega⟩,bY,bY]
theorem uK(n k:Nat)(h:k<(aK n).length):(aK n)[k]?=some ((n / W^k%W:Nat):Int):=by
 induction k generalizing n with
 |zero=>
  by_cases h0:n=0
  ·subst h0;rw[bF]at h;simp at h
  ·rw[dA h0];simp
 |succ k ih=>
  by_cases h0:n=0
  ·subst h0;rw[bF]at h;simp at h
  ·rw[dA h0]at h⊢
   rw[List.getElem?_cons_succ,ih _ (by simpa using h),Nat.pow_succ,Nat.mul_comm (W^k),Nat.div_div_eq_div_mul]
theorem jC(a b:Nat):(a:Int).fdiv (b:Int)=((a / b:Nat):Int):=by
 rw[Int.fdiv_eq_ediv_of_nonneg _ (by omega)];rfl
theorem and_one{a:Nat}(h:a<4294967296):(BitVec.ofInt 32 (a:Int) &&& BitVec.ofInt 32 1).toNat=a%2:=by
 rw[BitVec.toNat_and,BitVec.ofInt_natCast,BitVec.toNat_ofNat,Nat.mod_eq_of_lt (by simpa using h)]
 exact Nat.and_one_is_mod a
theorem xw(x i:Nat):x / W^(i / 32)%W / 2^(i%32)%2=x / 2^i%2:=by
 have hk:i%32<32:=Nat.mod_lt _ (by decide)
 have e:W=2^(i%32)*2^(32-i%32):=by rw[<-Nat.pow_add,show i%32+(32-i%32)=32 by omega];rfl
 rw[show x / W^(i / 32)%W=x / W^(i / 32)%(2^(i%32)*2^(32-i%32)) by rw[<-e]]
 rw[Nat.mod_mul_right_div_self,Nat.mod_mod_of_dvd,Nat.div_div_eq_div_mul,kb,<-Nat.pow_add,Nat.div_add_mod]
 exact⟨2^(32-i%32-1),by rw[<-Nat.pow_add_one'];congr 1;omega⟩
def dT(bx by_:Bool)(x y n:Nat)(br:Bool)(r:Nat)(i:Int)(fl:List (Nat×Nat))(qs:List Int):Task:=
 Task.at_ 198 0 [false,true,false,true,true,true,true] (sv 64 [(0,V.d (D.l bx (ws x))),(1,V.d (D.l by_ (ws y))),(4,V.m 0 0 n),(5,V.d (D.l br (ws r))),(7,V.d (D.i .i64 i))]) fl [Ob.cells (cellsOf qs) []]
def dM(bx by_:Bool)(x y n:Nat)(br:Bool)(r:Nat)(i:Int)(qs:List Int):Task:=
 Task.at_ 198 0 [true,true,false,false,true,false,false,true,false,true,true,true,true] (sv 64 [(0,V.d (D.l bx (ws x))),(1,V.d (D.l by_ (ws y))),(4,V.m 0 0 n),(5,V.d (D.l br (ws r))),(7,V.d (D.i .i64 i))]) [] [Ob.cells (cellsOf qs) []]
set_option exponentiation.threshold 400000 in
theorem jD{r:Nat}(h:r<2^300000):Fits r:=by
 unfold Fits
 rw[kb]
 exact Nat.lt_of_lt_of_le h (Nat.pow_le_pow_right (by decide) (by decide))
theorem wc:Fits 1:=ox (n:=0) (by decide)
theorem EE(bx by_ br:Bool)(x y n r i:Nat)(fl:List (Nat×Nat))(hfl:fl=[(5,1)]\/fl=[])(qs:List Int)(hx:Fits x)(hi:i<32*(aK x).length)(hr:Fits r)(hr2:Fits (r*2)):
  rk Tryz.prog aE (dT bx by_ x y n br r (i:Int) fl qs)=rk Tryz.prog aE (dM bx by_ x y n (nb (r*2+x / 2^i%2)) (r*2+x / 2^i%2) (i:Int) qs):=by
 have lx:=hx.len
 have s1:=wR br r 1 hr (by decide)
 rw[Nat.pow_one]at s1
 have hc:rk Tryz.prog aE (Task.call 161 [V.d (D.l br (ws r)),V.d (D.i .i64 1)] [])=some (.d (.l (nb (r*2)) (ws (r*2))),[]):=s1
 have hof:rk Tryz.prog aE (Task.call 160 [V.d (D.i .u64 1)] [])=some (.d (.l (nb 1) (ws 1)),[]):=yK 1 (by decide)
 have hadd:=z6 (nb (r*2)) (nb 1) (r*2) 1 hr2 wc
 have hq:i / 32<(aK x).length:=by omega
 have hg:(ws x)[i / 32]?=some (D.i .u32 ((x / W^(i / 32)%W:Nat):Int)):=by rw[ws,dC,uK x _ hq];rfl
 have ha:x / W^(i / 32)%W<4294967296:=Nat.mod_lt _ ft
 have hbw:=xw x i
 generalize x / W^(i / 32)%W=a at hg ha hbw
 have ht1:(i:Int).tdiv 32=((i / 32:Nat):Int):=dH i 32
 have ht2:(i:Int).tmod 32=((i%32:Nat):Int):=ia i 32
 have hw:IntKind.i64.wrap ((i / 32:Nat):Int)=((i / 32:Nat):Int):=by rw[wrap_i64]<;>omega
 have hmin:min (i%32) 32=i%32:=by omega
 have hp:(0:Int)<=((i%32:Nat):Int):=by omega
 have hi0:(i:Int) ≥ 0:=by omega
 have hbit:IntKind.u32.wrap (((BitVec.ofInt IntKind.u32.bits ((a:Int).fdiv (2^(i%32))) &&& BitVec.ofInt IntKind.u32.bits 1).toNat:Nat):Int)=((x / 2^i%2:Nat):Int):=by
  have e:(2:Int)^(i%32)=((2^(i%32):Nat):Int):=by simp
  have h32:a / 2^(i%32)<4294967296:=Nat.lt_of_le_of_lt (Nat.div_le_self _ _) ha
  have:=and_one h32
  rw[e,jC]
  have h2:(BitVec.ofInt IntKind.u32.bits ((a / 2^(i%32):Nat):Int) &&& BitVec.ofInt IntKind.u32.bits 1).toNat=a / 2^(i%32)%2:=this
  rw[h2,hbw,ct];omega
 rcases hfl with rfl|rfl
 all_goals
  unfold dT
  first|rw[uy] | rw[qn]
  simp only[aP,decide_eq_true hi0,if_true,aZ,hc,Option.bind_some,List.isEmpty_nil,aR,bj,ed,ht1,ht2,hw,bp,hg,bJ,iw,beq_self_eq_true,Int.toNat_natCast,ik,List.getElem?_cons_zero,bl,decide_eq_true hp,hmin,hbit]
  rcases Nat.mod_two_eq_zero_or_one (x / 2^i)with h|h
  ·rw[h]
   have h0:((((0:Nat):Int) != 0)=true)=False:=by simp
   simp only[h0,if_false,aD,Nat.add_zero]
   unfold dM
   generalize rk Tryz.prog aE (Task.at_ 198 0 [true,true,false,false,true,false,false,true,false,true,true,true,true] _ _ _)=R
   cases R<;>rfl
  ·rw[h]
   have h0:((((1:Nat):Int) != 0)=true)=True:=by simp
   simp only[h0,if_true,hof,hadd,Option.bind_some,List.isEmpty_nil,bj,ed,aR,aA,aZ,aD]
   unfold dM
   generalize rk Tryz.prog aE (Task.at_ 198 0 [true,true,false,false,true,false,false,true,false,true,true,true,true] _ _ _)=R
   cases R<;>rfl
theorem KE{z k:Nat}(hz:z<4294967296)(hk:k<32)(hd:z%2^(k+1)=0):IntKind.u32.wrap (((BitVec.ofInt IntKind.u32.bits (z:Int) ||| BitVec.ofInt IntKind.u32.bits (IntKind.u32.wrap (1*2^k))).toNat:Nat):Int)=((z+2^k:Nat):Int)/\z+2^k<4294967296:=by
 have h2:2^k<=2147483648:=Nat.le_trans (Nat.pow_le_pow_right (by decide) (show k<=31 by omega)) (by decide)
 obtain⟨t,ht⟩:=Nat.dvd_of_mod_eq_zero hd
 have hlt:z+2^k<4294967296:=by
  have hW:4294967296=2^(k+1)*2^(31-k):=by rw[<-Nat.pow_add,show k+1+(31-k)=32 by omega]
  have h3:t<2^(31-k):=by
   rw[ht,hW]at hz;exact Nat.lt_of_mul_lt_mul_left hz
  have h4:2^(k+1)*(t+1)<=4294967296:=by rw[hW];exact Nat.mul_le_mul_left _ h3
  have h5:2^(k+1)=2*2^k:=by rw[Nat.pow_succ,Nat.mul_comm]
  have h6:=Nat.pow_pos (n:=k) (show 0<2 by decide)
  rw[Nat.mul_add,Nat.mul_one,<-ht]at h4
  omega
 refine⟨?_,hlt⟩
 have e:(1:Int)*2^k=((2^k:Nat):Int):=by simp
 rw[e,ct (((2^k:Nat)):Int),kv (by omega)]
 have h3:(BitVec.ofInt IntKind.u32.bits (z:Int) ||| BitVec.ofInt IntKind.u32.bits ((2^k:Nat):Int)).toNat=z ||| 2^k:=by
  show (BitVec.ofInt 32 (z:Int) ||| BitVec.ofInt 32 ((2^k:Nat):Int)).toNat=_
  rw[BitVec.toNat_or,BitVec.ofInt_natCast,BitVec.ofInt_natCast,BitVec.toNat_ofNat,BitVec.toNat_ofNat,Nat.mod_eq_of_lt (by simpa using hz),Nat.mod_eq_of_lt (by omega)]
 have h4:z ||| 2^k=z+2^k:=by
  rw[ht,<-Nat.two_pow_add_eq_or_of_lt (Nat.pow_lt_pow_right (by decide) (Nat.lt_succ_self k))]
 rw[h3,h4,ct];omega
theorem xa{qs:List Int}(hu:cP qs){q:Nat}(hq:q<qs.length):qs[q]=((aN qs / W^q%W:Nat):Int):=by
 induction qs generalizing q with
 |nil=>simp at hq
 |cons z qs ih=>
  obtain⟨hz,hu'⟩:=cP.cons.1 hu
  have hzW:z.toNat<W:=by unfold W;omega
  cases q with
  |zero=>simp only[List.getElem_cons_zero,aN,Nat.pow_zero,Nat.div_one,Nat.add_mul_mod_self_left,Nat.mod_eq_of_lt hzW];omega
  |succ q=>
   simp only[List.getElem_cons_succ,aN]
   rw[ih hu' (by simpa using hq),Nat.pow_succ,Nat.mul_comm (W^q),<-Nat.div_div_eq_div_mul,Nat.add_mul_div_left _ _ ft,Nat.div_eq_of_lt hzW,Nat.zero_add]
theorem yu{Q q k m:Nat}(hk:k<32)(h:Q=2^(32*q+k+1)*m):Q / W^q%W%2^(k+1)=0:=by
 rw[Nat.mod_mod_of_dvd _ ⟨2^(31-k),by rw[<-Nat.pow_add,show k+1+(31-k)=32 by omega];rfl⟩,h,kb,show 32*q+k+1=32*q+(k+1)from rfl,Nat.pow_add,Nat.mul_assoc,Nat.mul_div_cancel_left _ (Nat.pow_pos (by decide)),Nat.mul_mod_right]
theorem G8(bx by_ br:Bool)(x y n r i:Nat)(qs:List Int)(hr:Fits r)(hy:Fits y)(hn:n=qs.length)(hi:i<32*n)(hn2:n<=10000)(hu:cP qs)(m:Nat)(hv:aN qs=2^(i+1)*m):
  (r<y->rk Tryz.prog aE (dM bx by_ x y n br r (i:Int) qs)=rk Tryz.prog aE (dT bx by_ x y n br r ((i:Int)-1) [] qs))/\
  (y<=r->∃qs',cP qs'/\qs'.length=n/\aN qs'=2^i*(2*m+1)/\rk Tryz.prog aE (dM bx by_ x y n br r (i:Int) qs)=rk Tryz.prog aE (dT bx by_ x y n (nb (r-y)) (r-y) ((i:Int)-1) [] qs')):=by
 have hs:=JL br by_ r y hr hy
 have hw1:IntKind.i64.wrap ((i:Int)-1)=(i:Int)-1:=by rw[wrap_i64]<;>omega
 constructor
 ·intro h
  unfold dM dT
  rw[qm]
  rw[DU,if_pos h]at hs
  simp[hs,hw1]
 ·intro h
  have hq:i / 32<qs.length:=by omega
  have hk:i%32<32:=Nat.mod_lt _ (by decide)
  have hwd:=xa hu hq
  have hz:aN qs / W^(i / 32)%W<4294967296:=Nat.mod_lt _ ft
  have hlow:aN qs / W^(i / 32)%W%2^(i%32+1)=0:=yu (q:=i / 32) (m:=m) hk (by rw[Nat.div_add_mod];exact hv)
  have hval:=jn qs (i / 32) ((aN qs / W^(i / 32)%W+2^(i%32):Nat):Int) hq
  rw[hwd,Int.toNat_natCast,Int.toNat_natCast,Nat.mul_add,xo (i / 32) (i%32),Nat.div_add_mod]at hval
  have hg:qs[i / 32]?=some ((aN qs / W^(i / 32)%W:Nat):Int):=by rw[List.getElem?_eq_getElem hq,hwd]
  generalize aN qs / W^(i / 32)%W=z at *
  obtain⟨hor,hlt⟩:=KE hz hk hlow
  refine⟨qs.set (i / 32) ((z+2^(i%32):Nat):Int),hu.set _ hlt,by simp[hn],?_,?_⟩
  ·have:2^(i+1)=2*2^i:=by rw[Nat.pow_succ,Nat.mul_comm]
   have e:2^i*(2*m+1)=2^(i+1)*m+2^i:=by rw[this,Nat.mul_add,Nat.mul_one,<-Nat.mul_assoc,Nat.mul_comm (2^i) 2]
   rw[e];omega
  ·unfold dM dT
   rw[qm]
   rw[DU,if_neg (by omega),jG]at hs
   have ht1:(i:Int).tdiv 32=((i / 32:Nat):Int):=dH i 32
   have ht2:(i:Int).tmod 32=((i%32:Nat):Int):=ia i 32
   have hw:IntKind.i64.wrap ((i / 32:Nat):Int)=((i / 32:Nat):Int):=by rw[wrap_i64]<;>omega
   have hmin:min (i%32) 32=i%32:=by omega
   have hp:(0:Int)<=((i%32:Nat):Int):=by omega
   have hb1:(0:Int)<=((i / 32:Nat):Int)/\((i / 32:Nat):Int)<(n:Int):=by omega
   have hb2:i / 32<(cellsOf qs).length:=by rw[dp];exact hq
   simp only[aZ,hs,Option.bind_some,List.isEmpty_nil,aR,if_true,o7,List.length_cons,List.length_nil,Nat.zero_add,Nat.reduceAdd,beq_self_eq_true,List.getD_cons_zero,List.getD_cons_succ,bj,ed,nU,aP,ht1,ht2,hw,decide_eq_true hb1,Int.toNat_natCast,cw,hg,Option.map_some,bJ,bl,decide_eq_true hp,decide_eq_true hb2,Bool.and_true,hmin,hor,hw1,ff,aD]
   generalize rk Tryz.prog aE (Task.at_ 198 0 [false,true,false,true,true,true,true] _ _ _)=R
   cases R<;>rfl
theorem EF(bx by_:Bool)(x y:Nat)(hx:Fits x)(hy:Fits (y*2))(hy0:0<y):∀(i:Nat) (br:Bool) (fl:List (Nat×Nat)) (r:Nat) (qs:List Int),(fl=[(5,1)]\/fl=[])->i<=32*(aK x).length->r=x / 2^i%y->aN qs=2^i*(x / 2^i / y)->cP qs->qs.length=(aK x).length->
  rk Tryz.prog aE (dT bx by_ x y (aK x).length br r ((i:Int)-1) fl qs)=some (.t [.d (.l (nb (x / y)) (ws (x / y))),.d (.l (nb (x%y)) (ws (x%y))),.d (.b true)],[]):=by
 have lx:=hx.len
 intro i
 induction i with
 |zero=>
  intro br fl r qs hfl hi hr hv hu hl
  rw[Nat.pow_zero,Nat.div_one]at hr
  rw[Nat.pow_zero,Nat.div_one,Nat.one_mul]at hv
  have hcm:=xE qs hu (by omega)
  rw[hl,hv,jG]at hcm
  have hc:=mQ br r (by rw[hr];exact hx.le (Nat.mod_le _ _))
  rw[hr]at hc
  have h1:¬((((0:Nat):Int)-1) ≥ 0):=by omega
  unfold dT
  rw[hr]
  rcases hfl with rfl|rfl
  ·rw[uy]
   simp only[aP,decide_eq_false h1,Bool.false_eq_true,if_false,aZ,hcm,Option.bind_some,gF,fp,beq_self_eq_true,aR,if_true,iv,bj,ed,hc,List.isEmpty_nil,aD]
  ·rw[qn]
   simp only[aP,decide_eq_false h1,Bool.false_eq_true,if_false,aZ,hcm,Option.bind_some,gF,fp,beq_self_eq_true,aR,if_true,iv,bj,ed,hc,List.isEmpty_nil,aD]
 |succ i ih=>
  intro br fl r qs hfl hi hr hv hu hl
  have hry:r<y:=by rw[hr];exact Nat.mod_lt _ hy0
  have e:(((i+1:Nat):Int)-1)=(i:Int):=by omega
  have fr:Fits (r*2):=hy.le (Nat.mul_le_mul_right _ (by omega))
  have hb:=Nat.mod_two_eq_zero_or_one (x / 2^i)
  have fr1:Fits (r*2+x / 2^i%2):=hy.le (by omega)
  have hX:x / 2^i=2*(x / 2^(i+1))+x / 2^i%2:=by
   rw[Nat.pow_succ,<-Nat.div_div_eq_div_mul]
   have:=Nat.div_add_mod (x / 2^i) 2
   omega
  have hdm:=Nat.div_add_mod (x / 2^(i+1)) y
  rw[<-hr]at hdm
  have hXY:x / 2^i=y*(2*(x / 2^(i+1) / y))+(r*2+x / 2^i%2):=by
   have:y*(2*(x / 2^(i+1) / y))=2*(y*(x / 2^(i+1) / y)):=by rw[Nat.mul_left_comm]
   omega
  rw[e,EE bx by_ br x y _ r i fl hfl qs hx (by omega) (hr▸fr.le (by omega)) fr]
  have hm:=G8 bx by_ (nb (r*2+x / 2^i%2)) x y (aK x).length (r*2+x / 2^i%2) i qs fr1 (hy.le (by omega)) hl.symm (by omega) lx hu (x / 2^(i+1) / y) hv
  by_cases hlt:r*2+x / 2^i%2<y
  ·rw[hm.1 hlt]
   have hq:x / 2^i / y=2*(x / 2^(i+1) / y):=by
    conv=>lhs;rw[hXY]
    rw[Nat.mul_add_div hy0,Nat.div_eq_of_lt hlt,Nat.add_zero]
   have hrr:x / 2^i%y=r*2+x / 2^i%2:=by
    conv=>lhs;rw[hXY]
    rw[Nat.mul_add_mod,Nat.mod_eq_of_lt hlt]
   refine ih _ [] _ qs (Or.inr rfl) (by omega) hrr.symm ?_ hu hl
   rw[hv,hq,Nat.pow_succ,Nat.mul_assoc]
  ·obtain⟨qs',u1,u2,u3,u4⟩:=hm.2 (by omega)
   rw[u4]
   have hq:x / 2^i / y=2*(x / 2^(i+1) / y)+1:=by
    conv=>lhs;rw[hXY]
    have hd1:(r*2+x / 2^i%2) / y=1:=Nat.div_eq_of_lt_le (by omega) (by omega)
    rw[Nat.mul_add_div hy0,hd1]
   have hrr:x / 2^i%y=r*2+x / 2^i%2-y:=by
    conv=>lhs;rw[hXY]
    rw[Nat.mul_add_mod,Nat.mod_eq_sub_mod (by omega),Nat.mod_eq_of_lt (by omega)]
   refine ih _ [] _ qs' (Or.inr rfl) (by omega) hrr.symm ?_ u1 u2
   rw[u3,hq]
theorem IZ(b c:Bool)(x y:Nat)(hx:Fits x)(hy:Fits (y*2))(hy0:0<y):rk Tryz.prog aE (Task.call 198 [V.d (D.l b (ws x)),V.d (D.l c (ws y))] [])=some (.t [.d (.l (nb (x / y)) (ws (x / y))),.d (.l (nb (x%y)) (ws (x%y))),.d (.b true)],[]):=by
 rw[f74]
 have lx:=hx.len
 have fy:Fits y:=hy.le (by omega)
 have c1:=mQ b x hx
 have c2:=mQ c y fy
 have cb:=qV (nb x) x hx
 have hyl:(aK y).length≠0:=fun e=>by
  have:=(dJ y).1 (List.length_eq_zero_iff.1 e);omega
 have h4:((((aK y).length:Nat):Int)==0)=false:=beq_eq_false_iff_ne.2 (by omega)
 have hbl:bd x<=32*(aK x).length:=(cf _ _).2 (by rw[<-kb];exact ek x)
 have hw:IntKind.i64.wrap (((bd x:Nat):Int)-1)=((bd x:Nat):Int)-1:=by rw[wrap_i64]<;>omega
 have hle:(((aK x).length:Nat):Int)<=4294967296:=by omega
 have hx0:x / 2^bd x=0:=Nat.div_eq_of_lt (ku x)
 have h:=EF (nb x) (nb y) x y hx hy hy0 (bd x) true [(5,1)] 0 (List.replicate (aK x).length 0) (Or.inl rfl) hbl (by rw[hx0,Nat.zero_mod]) (by rw[hx0,Nat.zero_div,Nat.mul_zero,eG]) (fun z hz=>by rw[List.mem_replicate]at hz;omega) (by simp)
 unfold dT at h
 rw[<-eF,o9]at h
 simp only[aZ,c1,c2,Option.bind_some,List.isEmpty_nil,aR,if_true,bj,ed,cM,aP,h4,Bool.false_eq_true,if_false,decide_true,decide_eq_true hle,cb,bl,hw,Int.toNat_natCast,aD,h]
end Go.Dn.Dec
namespace Go.Dn.Dec
def Lq(k:Nat)(p:List Bool):Option (List Nat):=
 if k=207 then [(207,[0,1,2,8,9,25]),(52687,[0,2,8,9,40]),(249295,[0,2,8,9,52]),(1035727,[0,2,8,9,64]),(991,[0,1,2,8,9,83]),(127,[0,1,2,8,9]),(511,[0,1,2,8,9,10]),
  (22527,[1,8,9,10,11,12,13,99,100,101]),(26843135,[1,8,9,10,11,12,13,15,99,100,101,106]),(127506431,[1,8,9,10,11,12,13,15,99,100,101,112]),
  (530159615,[1,8,9,10,11,12,13,15,99,100,101,121]),(469342207,[1,8,9,10,11,12,17,99,100,101,159]),(28671,[13,169])].lookup (p.foldl (fun n b=>2*n+b.toNat) 1)else none
def gq:Pol:={ cut:=Lq,app:=fun k _ _=>if k=207 then 0 else 2,uC:=fun _ _ _=>[],ext:=fun _=>none }
end Go.Dn.Dec
namespace Go.Dn.Dec
open Go.Proofs
theorem L1(s:List UInt8):rk Tryz.prog gq (.call 207 [vs s,vi 16,vi 64] [])=aC (rk Tryz.prog gq) (aT (s==[]) .fail (.call (.at_ 207 0 [true,false,false,true,true,true,true] (sv 172 [(0,vs s),(1,vi 16),(2,vi 64),(8,vb false),(9,vs s),(25,vb true)]) [] []) .ret)):=
 aF (by kernel_rfl)
theorem L2(c:Int):rk Tryz.prog gq (.call 223 [.d (.i .u8 c)] [])=aC (rk Tryz.prog gq) (.ret (.d (.i .u8 (IntKind.u8.wrap ((BitVec.ofInt IntKind.u8.bits c ||| BitVec.ofInt IntKind.u8.bits 32).toNat:Int))),[])):=
 aF (by kernel_rfl)
theorem Bn(l_0:List UInt8)(n_1 n_2:Int)(b_3:Bool)(l_4:List UInt8)(b_5:Bool):rk Tryz.prog gq (.at_ 207 0 [true,false,false,true,true,true,true] (sv 172 [(0,vs l_0),(1,vi n_1),(2,vi n_2),(8,vb b_3),(9,vs l_4),(25,vb b_5)]) [] [])=aC (rk Tryz.prog gq) (aT b_5 (aT (n_2==0) (.call (.at_ 207 0 [true,true,true,true,true,true] (sv 172 [(0,vs l_0),(1,vi n_1),(2,vi 64),(8,vb b_3),(9,vs l_4)]) [] []) .ret) (aT (decide (n_2<0)) (.call (.at_ 207 0 [true,true,true,false,true,true,true,true,true] (sv 172 [(0,vs l_0),(1,vi n_1),(2,vi n_2),(8,vb b_3),(9,vs l_4),(83,vb true)]) [] []) .ret) (.call (.at_ 207 0 [true,true,true,false,true,true,true,true,true] (sv 172 [(0,vs l_0),(1,vi n_1),(2,vi n_2),(8,vb b_3),(9,vs l_4),(83,vb (decide (n_2>64)))]) [] []) .ret))) (aT (n_1==0) (ob (bh l_0 0) fun a=>aT ((a.toNat:Int)==48) (aT (decide ((l_0.length:Int) ≥ 3)) (ob (bh l_0 1) fun c=>cV (.call 223 [.d (.i .u8 (c.toNat:Int))] []) fun e=>aW e fun f=>bD .u8 f fun g => .call (.at_ 207 0 [true,false,false,true,true,false,true,true,true,false,false,true,true,true,true] (sv 172 [(0,vs l_0),(2,vi n_2),(8,vb b_3),(9,vs l_4),(40,vb (g==98))]) [] []) .ret) (.call (.at_ 207 0 [true,false,false,true,true,false,true,true,true,false,false,true,true,true,true] (sv 172 [(0,vs l_0),(2,vi n_2),(8,vb b_3),(9,vs l_4),(40,vb false)]) [] []) .ret)) (aT (n_2==0) (.call (.at_ 207 0 [true,true,true,true,true,true] (sv 172 [(0,vs l_0),(1,vi 10),(2,vi 64),(8,vb b_3),(9,vs l_4)]) [] []) .ret) (aT (decide (n_2<0)) (.call (.at_ 207 0 [true,true,true,false,true,true,true,true,true] (sv 172 [(0,vs l_0),(1,vi 10),(2,vi n_2),(8,vb b_3),(9,vs l_4),(83,vb true)]) [] []) .ret) (.call (.at_ 207 0 [true,true,true,false,true,true,true,true,true] (sv 172 [(0,vs l_0),(1,vi 10),(2,vi n_2),(8,vb b_3),(9,vs l_4),(83,vb (decide (n_2>64)))]) [] []) .ret)))) .fail)):=
 aF (by kernel_rfl)
theorem Bm(l_0:List UInt8)(n_1 n_2:Int)(b_3:Bool)(l_4:List UInt8):rk Tryz.prog gq (.at_ 207 0 [true,true,true,true,true,true] (sv 172 [(0,vs l_0),(1,vi n_1),(2,vi n_2),(8,vb b_3),(9,vs l_4)]) [] [])=aC (rk Tryz.prog gq) (aT (n_1==10) (.call (.at_ 207 0 [true,true,true,true,true,true,true,true] (sv 172 [(0,vs l_0),(1,vi n_1),(2,vi n_2),(8,vb b_3),(9,vs l_4),(10,vu 1844674407370955162)]) [] []) .ret) (aT (n_1==16) (.call (.at_ 207 0 [true,true,true,true,true,true,true,true] (sv 172 [(0,vs l_0),(1,vi n_1),(2,vi n_2),(8,vb b_3),(9,vs l_4),(10,vu 1152921504606846976)]) [] []) .ret) (aM (decide (IntKind.u64.wrap n_1≠0)) (.call (.at_ 207 0 [true,true,true,true,true,true,true,true] (sv 172 [(0,vs l_0),(1,vi n_1),(2,vi n_2),(8,vb b_3),(9,vs l_4),(10,vu (IntKind.u64.wrap (IntKind.u64.wrap (Int.tdiv 18446744073709551615 (IntKind.u64.wrap n_1))+1)))]) [] []) .ret)))):=
 aF (by kernel_rfl)
theorem Bp(l_0:List UInt8)(n_1 n_2:Int)(b_3:Bool)(l_4:List UInt8)(b_5:Bool):rk Tryz.prog gq (.at_ 207 0 [true,true,true,false,true,true,true,true,true] (sv 172 [(0,vs l_0),(1,vi n_1),(2,vi n_2),(8,vb b_3),(9,vs l_4),(83,vb b_5)]) [] [])=aC (rk Tryz.prog gq) (aT b_5 .fail (.call (.at_ 207 0 [true,true,true,true,true,true] (sv 172 [(0,vs l_0),(1,vi n_1),(2,vi n_2),(8,vb b_3),(9,vs l_4)]) [] []) .ret)):=
 aF (by kernel_rfl)
theorem Bo(l_0:List UInt8)(n_1 n_2:Int)(b_3:Bool)(l_4:List UInt8)(n_5:Int):rk Tryz.prog gq (.at_ 207 0 [true,true,true,true,true,true,true,true] (sv 172 [(0,vs l_0),(1,vi n_1),(2,vi n_2),(8,vb b_3),(9,vs l_4),(10,vu n_5)]) [] [])=aC (rk Tryz.prog gq) (aM (decide (0<=IntKind.u64.wrap n_2)) (aM (decide (l_0.length<=4294967296)&&true) (.call (.at_ 207 0 [false,true,false,true,true,true,true,true,true,true,true,true,true,true] (sv 172 [(1,vi n_1),(8,vb b_3),(9,vs l_4),(10,vu n_5),(11,vu (IntKind.u64.wrap (IntKind.u64.wrap (1*2^min (IntKind.u64.wrap n_2).toNat 64)-1))),(12,vb false),(13,vu 0),(99,vl false (ofBytes l_0)),(100,vi ((ofBytes l_0).length:Int)),(101,vi 0)]) [] []) .ret))):=
 aF (by kernel_rfl)
theorem o5(n_0:Int)(b_1:Bool)(l_2:List UInt8)(n_3 n_4:Int)(b_5:Bool)(n_6:Int)(b_7:Bool)(l_8:List D)(n_9 n_10:Int):rk Tryz.prog gq (.at_ 207 0 [false,true,false,true,true,true,true,true,true,true,true,true,true,true] (sv 172 [(1,vi n_0),(8,vb b_1),(9,vs l_2),(10,vu n_3),(11,vu n_4),(12,vb b_5),(13,vu n_6),(99,vl b_7 l_8),(100,vi n_9),(101,vi n_10)]) [] [])=aC (rk Tryz.prog gq) (aT (decide (n_10<n_9)) (eC l_8 n_10 1 0 fun a=>bD .u8 a fun c=>aT (c==95) (.call (.at_ 207 0 [true,false,false,true,true,false,false,true,true,false,false,true,false,true,true,true,true,true,true,true,true,true,true,true] (sv 172 [(1,vi n_0),(8,vb b_1),(9,vs l_2),(10,vu n_3),(11,vu n_4),(12,vb b_5),(13,vu n_6),(15,.d (.i .u8 c)),(99,vl b_7 l_8),(100,vi n_9),(101,vi n_10),(106,vb b_1)]) [] []) .ret) (.call (.at_ 207 0 [true,false,false,true,true,false,false,true,true,false,false,true,false,true,true,true,true,true,true,true,true,true,true,true] (sv 172 [(1,vi n_0),(8,vb b_1),(9,vs l_2),(10,vu n_3),(11,vu n_4),(12,vb b_5),(13,vu n_6),(15,.d (.i .u8 c)),(99,vl b_7 l_8),(100,vi n_9),(101,vi n_10),(106,vb false)]) [] []) .ret)) (aT b_5 (cV (.call 224 [vs l_2] []) fun e=>aB e fun f => .call (.at_ 207 0 [true,false,true,true,true,true,true,true,true,true,true,true,true,true] (sv 172 [(13,vu n_6),(169,vb !f)]) [] []) .ret) (.call (.at_ 207 0 [true,false,true,true,true,true,true,true,true,true,true,true,true,true] (sv 172 [(13,vu n_6),(169,vb false)]) [] []) .ret))):=
 aF (by kernel_rfl)
theorem qT(n_0:Int)(b_1:Bool)(l_2:List UInt8)(n_3 n_4:Int)(b_5:Bool)(n_6 n_7:Int)(b_8:Bool)(l_9:List D)(n_10 n_11:Int)(b_12:Bool):rk Tryz.prog gq (.at_ 207 0 [true,false,false,true,true,false,false,true,true,false,false,true,false,true,true,true,true,true,true,true,true,true,true,true] (sv 172 [(1,vi n_0),(8,vb b_1),(9,vs l_2),(10,vu n_3),(11,vu n_4),(12,vb b_5),(13,vu n_6),(15,.d (.i .u8 n_7)),(99,vl b_8 l_9),(100,vi n_10),(101,vi n_11),(106,vb b_12)]) [] [])=aC (rk Tryz.prog gq) (aT b_12 (.call (.at_ 207 0 [false,true,false,true,true,true,true,true,true,true,true,true,true,true] (sv 172 [(1,vi n_0),(8,vb b_1),(9,vs l_2),(10,vu n_3),(11,vu n_4),(12,vb true),(13,vu n_6),(99,vl b_8 l_9),(100,vi n_10),(101,vi (IntKind.i64.wrap (n_11+1)))]) [] []) .ret) (aT (decide (48<=n_7)) (.call (.at_ 207 0 [true,true,true,false,false,true,true,false,false,true,true,false,false,true,false,true,true,true,true,true,true,true,true,true,true,true] (sv 172 [(1,vi n_0),(8,vb b_1),(9,vs l_2),(10,vu n_3),(11,vu n_4),(12,vb b_5),(13,vu n_6),(15,.d (.i .u8 n_7)),(99,vl b_8 l_9),(100,vi n_10),(101,vi n_11),(112,vb (decide (n_7<=57)))]) [] []) .ret) (.call (.at_ 207 0 [true,true,true,false,false,true,true,false,false,true,true,false,false,true,false,true,true,true,true,true,true,true,true,true,true,true] (sv 172 [(1,vi n_0),(8,vb b_1),(9,vs l_2),(10,vu n_3),(11,vu n_4),(12,vb b_5),(13,vu n_6),(15,.d (.i .u8 n_7)),(99,vl b_8 l_9),(100,vi n_10),(101,vi n_11),(112,vb false)]) [] []) .ret))):=
 aF (by kernel_rfl)
theorem wY(n_0:Int)(b_1:Bool):rk Tryz.prog gq (.at_ 207 0 [true,false,true,true,true,true,true,true,true,true,true,true,true,true] (sv 172 [(13,vu n_0),(169,vb b_1)]) [] [])=aC (rk Tryz.prog gq) (aT b_1 .fail (.ret (.t [vu n_0,V.nifc],[]))):=
 aF (by kernel_rfl)
theorem jX(n_0:Int)(b_1:Bool)(l_2:List UInt8)(n_3 n_4:Int)(b_5:Bool)(n_6 n_7:Int)(b_8:Bool)(l_9:List D)(n_10 n_11:Int)(b_12:Bool):rk Tryz.prog gq (.at_ 207 0 [true,true,true,false,false,true,true,false,false,true,true,false,false,true,false,true,true,true,true,true,true,true,true,true,true,true] (sv 172 [(1,vi n_0),(8,vb b_1),(9,vs l_2),(10,vu n_3),(11,vu n_4),(12,vb b_5),(13,vu n_6),(15,.d (.i .u8 n_7)),(99,vl b_8 l_9),(100,vi n_10),(101,vi n_11),(112,vb b_12)]) [] [])=aC (rk Tryz.prog gq) (aT b_12 (aT (decide (IntKind.u8.wrap (n_7-48) ≥ IntKind.u8.wrap n_0)) .fail (aT (decide (n_6 ≥ n_3)) .fail (aT (decide (IntKind.u64.wrap (IntKind.u64.wrap (n_6*IntKind.u64.wrap n_0)+IntKind.u64.wrap (IntKind.u8.wrap (n_7-48)))<IntKind.u64.wrap (n_6*IntKind.u64.wrap n_0))) (.call (.at_ 207 0 [true,false,true,true,true,true,true,true,true,false,false,true,true,false,false,true,false,true,true,true,true,true,true,true,true,true,true,true] (sv 172 [(1,vi n_0),(8,vb b_1),(9,vs l_2),(10,vu n_3),(11,vu n_4),(12,vb b_5),(17,vu (IntKind.u64.wrap (IntKind.u64.wrap (n_6*IntKind.u64.wrap n_0)+IntKind.u64.wrap (IntKind.u8.wrap (n_7-48))))),(99,vl b_8 l_9),(100,vi n_10),(101,vi n_11),(159,vb true)]) [] []) .ret) (.call (.at_ 207 0 [true,false,true,true,true,true,true,true,true,false,false,true,true,false,false,true,false,true,true,true,true,true,true,true,true,true,true,true] (sv 172 [(1,vi n_0),(8,vb b_1),(9,vs l_2),(10,vu n_3),(11,vu n_4),(12,vb b_5),(17,vu (IntKind.u64.wrap (IntKind.u64.wrap (n_6*IntKind.u64.wrap n_0)+IntKind.u64.wrap (IntKind.u8.wrap (n_7-48))))),(99,vl b_8 l_9),(100,vi n_10),(101,vi n_11),(159,vb (decide (IntKind.u64.wrap (IntKind.u64.wrap (n_6*IntKind.u64.wrap n_0)+IntKind.u64.wrap (IntKind.u8.wrap (n_7-48)))>n_4)))]) [] []) .ret)))) (cV (.call 223 [.d (.i .u8 n_7)] []) fun a=>aW a fun c=>bD .u8 c fun e=>aT (decide (97<=e)) (cV (.call 223 [.d (.i .u8 n_7)] []) fun f=>aW f fun g=>bD .u8 g fun h => .call (.at_ 207 0 [true,true,true,true,true,false,false,true,true,false,false,true,true,false,false,true,false,true,true,true,true,true,true,true,true,true,true,true] (sv 172 [(1,vi n_0),(8,vb b_1),(9,vs l_2),(10,vu n_3),(11,vu n_4),(12,vb b_5),(13,vu n_6),(15,.d (.i .u8 n_7)),(99,vl b_8 l_9),(100,vi n_10),(101,vi n_11),(121,vb (decide (h<=122)))]) [] []) .ret) (.call (.at_ 207 0 [true,true,true,true,true,false,false,true,true,false,false,true,true,false,false,true,false,true,true,true,true,true,true,true,true,true,true,true] (sv 172 [(1,vi n_0),(8,vb b_1),(9,vs l_2),(10,vu n_3),(11,vu n_4),(12,vb b_5),(13,vu n_6),(15,.d (.i .u8 n_7)),(99,vl b_8 l_9),(100,vi n_10),(101,vi n_11),(121,vb false)]) [] []) .ret))):=
 aF (by kernel_rfl)
theorem jY(n_0:Int)(b_1:Bool)(l_2:List UInt8)(n_3 n_4:Int)(b_5:Bool)(n_6:Int)(b_7:Bool)(l_8:List D)(n_9 n_10:Int)(b_11:Bool):rk Tryz.prog gq (.at_ 207 0 [true,false,true,true,true,true,true,true,true,false,false,true,true,false,false,true,false,true,true,true,true,true,true,true,true,true,true,true] (sv 172 [(1,vi n_0),(8,vb b_1),(9,vs l_2),(10,vu n_3),(11,vu n_4),(12,vb b_5),(17,vu n_6),(99,vl b_7 l_8),(100,vi n_9),(101,vi n_10),(159,vb b_11)]) [] [])=aC (rk Tryz.prog gq) (aT b_11 .fail (.call (.at_ 207 0 [false,true,false,true,true,true,true,true,true,true,true,true,true,true] (sv 172 [(1,vi n_0),(8,vb b_1),(9,vs l_2),(10,vu n_3),(11,vu n_4),(12,vb b_5),(13,vu n_6),(99,vl b_7 l_8),(100,vi n_9),(101,vi (IntKind.i64.wrap (n_10+1)))]) [] []) .ret)):=
 aF (by kernel_rfl)
theorem pZ(n_0:Int)(b_1:Bool)(l_2:List UInt8)(n_3 n_4:Int)(b_5:Bool)(n_6 n_7:Int)(b_8:Bool)(l_9:List D)(n_10 n_11:Int)(b_12:Bool):rk Tryz.prog gq (.at_ 207 0 [true,true,true,true,true,false,false,true,true,false,false,true,true,false,false,true,false,true,true,true,true,true,true,true,true,true,true,true] (sv 172 [(1,vi n_0),(8,vb b_1),(9,vs l_2),(10,vu n_3),(11,vu n_4),(12,vb b_5),(13,vu n_6),(15,.d (.i .u8 n_7)),(99,vl b_8 l_9),(100,vi n_10),(101,vi n_11),(121,vb b_12)]) [] [])=aC (rk Tryz.prog gq) (aT b_12 (cV (.call 223 [.d (.i .u8 n_7)] []) fun a=>aW a fun c=>bD .u8 c fun e=>aT (decide (IntKind.u8.wrap (IntKind.u8.wrap (e-97)+10) ≥ IntKind.u8.wrap n_0)) .fail (aT (decide (n_6 ≥ n_3)) .fail (aT (decide (IntKind.u64.wrap (IntKind.u64.wrap (n_6*IntKind.u64.wrap n_0)+IntKind.u64.wrap (IntKind.u8.wrap (IntKind.u8.wrap (e-97)+10)))<IntKind.u64.wrap (n_6*IntKind.u64.wrap n_0))) (.call (.at_ 207 0 [true,false,true,true,true,true,true,true,true,false,false,true,true,false,false,true,false,true,true,true,true,true,true,true,true,true,true,true] (sv 172 [(1,vi n_0),(8,vb b_1),(9,vs l_2),(10,vu n_3),(11,vu n_4),(12,vb b_5),(17,vu (IntKind.u64.wrap (IntKind.u64.wrap (n_6*IntKind.u64.wrap n_0)+IntKind.u64.wrap (IntKind.u8.wrap (IntKind.u8.wrap (e-97)+10))))),(99,vl b_8 l_9),(100,vi n_10),(101,vi n_11),(159,vb true)]) [] []) .ret) (.call (.at_ 207 0 [true,false,true,true,true,true,true,true,true,false,false,true,true,false,false,true,false,true,true,true,true,true,true,true,true,true,true,true] (sv 172 [(1,vi n_0),(8,vb b_1),(9,vs l_2),(10,vu n_3),(11,vu n_4),(12,vb b_5),(17,vu (IntKind.u64.wrap (IntKind.u64.wrap (n_6*IntKind.u64.wrap n_0)+IntKind.u64.wrap (IntKind.u8.wrap (IntKind.u8.wrap (e-97)+10))))),(99,vl b_8 l_9),(100,vi n_10),(101,vi n_11),(159,vb (decide (IntKind.u64.wrap (IntKind.u64.wrap (n_6*IntKind.u64.wrap n_0)+IntKind.u64.wrap (IntKind.u8.wrap (IntKind.u8.wrap (e-97)+10)))>n_4)))]) [] []) .ret)))) .fail):=
 aF (by kernel_rfl)
end Go.Dn.Dec
namespace Go.Dn.Dec
open Go.Proofs
theorem f48(s:List UInt8):rk Tryz.prog aE (.call 213 [vs s] [])=aC (rk Tryz.prog aE) (.call (.at_ 213 0 [false,false,true,true] (sv 29 [(0,vs s),(4,vi 0)]) [] []) .ret):=
 aF (by kernel_rfl)
theorem f47(s:List UInt8):rk Tryz.prog aE (.call 212 [vs s] [])=aC (rk Tryz.prog aE) (aT (!s==[]) (ob (bh s 0) fun a=>aT ((a.toNat:Int)==43) (.call (.at_ 212 0 [true,false,true] (sv 22 [(0,vs s),(15,vb true)]) [] []) .ret) (ob (bh s 0) fun c => .call (.at_ 212 0 [true,false,true] (sv 22 [(0,vs s),(15,vb ((c.toNat:Int)==45))]) [] []) .ret)) (.call (.at_ 212 0 [true,false,true] (sv 22 [(0,vs s),(15,vb false)]) [] []) .ret)):=
 aF (by kernel_rfl)
theorem f20(s:List UInt8):rk Tryz.prog aE (.call 184 [vs s] [])=aC (rk Tryz.prog aE) (cV (.call 212 [vs s] []) fun a=>dY a fun c=>aM (c.length==2) (aW (c.getD 0 (vb false)) fun e=>dQ e fun f=>aW (c.getD 1 (vb false)) fun g=>fF g fun h=>cV (.call 213 [vs h] []) fun i=>dY i fun j=>aM (j.length==2) (aW (j.getD 0 (vb false)) fun k=>fF k fun l=>aW (j.getD 1 (vb false)) fun m=>fF m fun n=>aT (!n==[]) (ob (bh n 0) fun o => .call (.at_ 184 0 [true,false,true,true,true] (sv 76 [(0,vs n),(2,.p 0 0),(22,vb ((o.toNat:Int)==46))]) [] [.cells [vb f,vs l,vs [],vb false,vs []] []]) .ret) (.call (.at_ 184 0 [true,false,true,true,true] (sv 76 [(0,vs n),(2,.p 0 0),(22,vb false)]) [] [.cells [vb f,vs l,vs [],vb false,vs []] []]) .ret)))):=
 aF (by kernel_rfl)
theorem f22(s:List UInt8):rk Tryz.prog aE (.call 186 [vs s] [])=aC (rk Tryz.prog aE) (.call (.at_ 186 0 [false,true,false,true,true] (sv 21 [(0,vs s),(3,vl true []),(6,.it 0)]) [(3,1)] [.iter s 0]) .ret):=
 aF (by kernel_rfl)
theorem f21(b1:Bool)(s1 s2:List UInt8)(b2:Bool)(s3:List UInt8):rk Tryz.prog aE (.call 185 [.d (.g [.b b1,.s s1,.s s2,.b b2,.s s3])] [])=aC (rk Tryz.prog aE) (cV (.call 183 [vs s3,vs [48]] []) fun a=>aS a fun c=>aT (decide ((c.length:Int)>3)) (.ret (.t [vi 0,vb false],[])) (.call (.at_ 185 0 [false,true,false,true,true,true,true] (sv 37 [(1,.p 0 0),(4,vs c),(5,vi 0),(14,.it 1)]) [] [.iter c 0,.cells [vb b1,vs s1,vs s2,vb b2,vs s3] []]) .ret)):=
 aF (by kernel_rfl)
theorem f54(b:Bool)(xs:List D)(c:Bool)(ys:List D):rk Tryz.prog aE (.call 169 [vl b xs,vl c ys] [])=aC (rk Tryz.prog aE) (cV (.call 198 [vl b xs,vl c ys] []) fun a=>dY a fun e=>aM (e.length==3) (aW (e.getD 0 (vb false)) fun f=>dZ f fun g h=>aW (e.getD 1 (vb false)) fun j=>dZ j fun k m=>aW (e.getD 2 (vb false)) fun n=>dQ n fun o=>cV (.call 161 [vl k m,vi 1] []) fun p=>aL p fun q r=>cV (.call 164 [vl q r,vl c ys] []) fun s=>aI s fun t=>aT (decide (t>0)) (.call (.at_ 169 0 [true,false,true,true,true] (sv 36 [(5,vl g h),(31,vb true)]) [] []) .ret) (aT (t==0) (cV (.call 168 [vl g h] []) fun zu=>aU zu fun v => .call (.at_ 169 0 [true,false,true,true,true] (sv 36 [(5,vl g h),(31,vb (IntKind.u64.wrap ((BitVec.ofInt IntKind.u64.bits v &&& BitVec.ofInt IntKind.u64.bits 1).toNat:Int)==1))]) [] []) .ret) (.call (.at_ 169 0 [true,false,true,true,true] (sv 36 [(5,vl g h),(31,vb false)]) [] []) .ret)))):=
 aF (by kernel_rfl)
theorem f55(q e:Int):rk Tryz.prog aE (.call 214 [vu q,vi e] [])=aC (rk Tryz.prog aE) (aT (q.fdiv 4503599627370496==0) (.ret (.t [vu q,vb true],[])) (aT (decide (e>971)) (.ret (.t [vu 0,vb false],[])) (.ret (.t [vu (IntKind.u64.wrap ((BitVec.ofInt IntKind.u64.bits (IntKind.u64.wrap (IntKind.u64.wrap (IntKind.i64.wrap (IntKind.i64.wrap (e - -1074)+1))*4503599627370496)) ||| BitVec.ofInt IntKind.u64.bits (IntKind.u64.wrap ((BitVec.ofInt IntKind.u64.bits q &&& BitVec.ofInt IntKind.u64.bits 4503599627370495).toNat:Int))).toNat:Int)),vb true],[])))):=
 aF (by kernel_rfl)
theorem f26(b:Bool)(xs:List D)(c:Bool)(ys:List D):rk Tryz.prog aE (.call 187 [vl b xs,vl c ys] [])=aC (rk Tryz.prog aE) (cV (.call 113 [vl b xs] []) fun a=>aI a fun e=>aT (e==0) (.ret (.t [vu 0,vb true],[])) (cV (.call 113 [vl b xs] []) fun f=>aI f fun g=>cV (.call 113 [vl c ys] []) fun h=>aI h fun j => .call (.at_ 187 0 [false,true,true,true] (sv 46 [(0,vl b xs),(1,vl c ys),(6,vi (if -1074>IntKind.i64.wrap (IntKind.i64.wrap (IntKind.i64.wrap (g-j)-52)-1)then -1074 else IntKind.i64.wrap (IntKind.i64.wrap (IntKind.i64.wrap (g-j)-52)-1)))]) [] []) .ret)):=
 aF (by kernel_rfl)
theorem f13(s:List UInt8):rk Tryz.prog aE (.call 144 [vs s] [])=aC (rk Tryz.prog aE) (cV (.call 184 [vs s] []) fun a=>dY a fun c=>aM (c.length==2) (aW (c.getD 0 (vb false)) fun e=>xj 5 e fun f=>aW (c.getD 1 (vb false)) fun h=>dQ h fun j=>aM ([.d (f.getD 0 (.b false)),.d (f.getD 1 (.b false)),.d (f.getD 2 (.b false)),.d (f.getD 3 (.b false)),.d (f.getD 4 (.b false))].all V.one) (aT (!j) (.ret (.t [vu 0,vi 2],[])) (fF (f.getD 1 (.b false)) fun k=>fF (f.getD 2 (.b false)) fun m=>aT (decide (IntKind.i64.wrap ((k.length:Int)+(m.length:Int))>60)) (.ret (.t [vu 0,vi 4],[])) (cV (.call 185 [.d (.g [f.getD 0 (.b false),f.getD 1 (.b false),f.getD 2 (.b false),f.getD 3 (.b false),f.getD 4 (.b false)])] []) fun n=>dY n fun o=>aM (o.length==2) (aW (o.getD 0 (vb false)) fun q=>bD .i64 q fun r=>aW (o.getD 1 (vb false)) fun zu=>dQ zu fun v=>aT (!v) (.ret (.t [vu 0,vi 5],[])) (fF (f.getD 2 (.b false)) fun w=>fF (f.getD 1 (.b false)) fun x=>fF (f.getD 2 (.b false)) fun y=>aM (decide (x.length+y.length<4611686018427387904)) (cV (.call 186 [vs (x++y)] []) fun z=>aL z fun a0 a1=>cV (.call 160 [vu 1] []) fun a2=>aL a2 fun a3 a4=>aT (decide (IntKind.i64.wrap (r-(w.length:Int))>0)) (cV (.call 166 [vi (IntKind.i64.wrap (r-(w.length:Int)))] []) fun a5=>aL a5 fun a6 a7=>cV (.call 165 [vl a0 a1,vl a6 a7] []) fun a8=>aL a8 fun a9 aa => .call (.at_ 144 0 [true,true,true,true,true,true,true,true] (sv 68 [(4,.p 0 0),(7,vl a9 aa),(8,vl a3 a4)]) [] [.cells [.d (f.getD 0 (.b false)),.d (f.getD 1 (.b false)),.d (f.getD 2 (.b false)),.d (f.getD 3 (.b false)),.d (f.getD 4 (.b false))] []]) .ret) (cV (.call 166 [vi (IntKind.i64.wrap (0-IntKind.i64.wrap (r-(w.length:Int))))] []) fun ab=>aL ab fun ac ad => .call (.at_ 144 0 [true,true,true,true,true,true,true,true] (sv 68 [(4,.p 0 0),(7,vl a0 a1),(8,vl ac ad)]) [] [.cells [.d (f.getD 0 (.b false)),.d (f.getD 1 (.b false)),.d (f.getD 2 (.b false)),.d (f.getD 3 (.b false)),.d (f.getD 4 (.b false))] []]) .ret))))))))):=
 aF (by kernel_rfl)
theorem x4(l_0:List UInt8)(n_1:Int):rk Tryz.prog aE (.at_ 213 0 [false,false,true,true] (sv 29 [(0,vs l_0),(4,vi n_1)]) [] [])=aC (rk Tryz.prog aE) (aT (decide (n_1<(l_0.length:Int))) (ob (bh l_0 n_1) fun a=>aT (decide ((a.toNat:Int) ≥ 48)) (ob (bh l_0 n_1) fun c => .call (.at_ 213 0 [true,false,false,false,false,true,true] (sv 29 [(0,vs l_0),(4,vi n_1),(20,vb (decide ((c.toNat:Int)<=57)))]) [] []) .ret) (.call (.at_ 213 0 [true,false,false,false,false,true,true] (sv 29 [(0,vs l_0),(4,vi n_1),(20,vb false)]) [] []) .ret)) (.call (.at_ 213 0 [true,false,false,false,false,true,true] (sv 29 [(0,vs l_0),(4,vi n_1),(20,vb false)]) [] []) .ret)):=
 aF (by kernel_rfl)
theorem x3(l_0:List UInt8)(b_1:Bool):rk Tryz.prog aE (.at_ 212 0 [true,false,true] (sv 22 [(0,vs l_0),(15,vb b_1)]) [] [])=aC (rk Tryz.prog aE) (aT b_1 (ob (bh l_0 0) fun a=>aM (decide ((0:Int)<=1/\1<=(l_0.length:Int))) (.ret (.t [vb ((a.toNat:Int)==45),vs (List.take (l_0.length-1) (List.drop 1 l_0))],[]))) (.ret (.t [vb false,vs l_0],[]))):=
 aF (by kernel_rfl)
theorem xR(l_0:List UInt8)(b_1 b_2:Bool)(l_3 l_4:List UInt8)(b_5:Bool)(l_6:List UInt8):rk Tryz.prog aE (.at_ 184 0 [true,false,true,true,true] (sv 76 [(0,vs l_0),(2,.p 0 0),(22,vb b_1)]) [] [.cells [vb b_2,vs l_3,vs l_4,vb b_5,vs l_6] []])=aC (rk Tryz.prog aE) (aT b_1 (aM (decide ((0:Int)<=1/\1<=(l_0.length:Int))) (cV (.call 213 [vs (List.take (l_0.length-1) (List.drop 1 l_0))] []) fun a=>dY a fun c=>aM (c.length==2) (aW (c.getD 0 (vb false)) fun e=>fF e fun f=>aW (c.getD 1 (vb false)) fun h=>fF h fun i=>aT (f==[]) (.ret (.t [.d (.g [.b b_2,.s l_3,.s f,.b b_5,.s l_6]),vb false],[])) (aT (l_3==[]) (.call (.at_ 184 0 [true,false,true,true,true,true] (sv 76 [(0,vs i),(2,.p 0 0),(41,vb (f==[]))]) [] [.cells [vb b_2,vs l_3,vs f,vb b_5,vs l_6] []]) .ret) (.call (.at_ 184 0 [true,false,true,true,true,true] (sv 76 [(0,vs i),(2,.p 0 0),(41,vb false)]) [] [.cells [vb b_2,vs l_3,vs f,vb b_5,vs l_6] []]) .ret))))) (aT (l_3==[]) (.call (.at_ 184 0 [true,false,true,true,true,true] (sv 76 [(0,vs l_0),(2,.p 0 0),(41,vb (l_4==[]))]) [] [.cells [vb b_2,vs l_3,vs l_4,vb b_5,vs l_6] []]) .ret) (.call (.at_ 184 0 [true,false,true,true,true,true] (sv 76 [(0,vs l_0),(2,.p 0 0),(41,vb false)]) [] [.cells [vb b_2,vs l_3,vs l_4,vb b_5,vs l_6] []]) .ret))):=
 aF (by kernel_rfl)
theorem xS(l_0:List UInt8)(b_1:Bool)(l_2:List D)(l_3:List UInt8):rk Tryz.prog aE (.at_ 186 0 [false,true,false,true,true] (sv 21 [(0,vs l_0),(3,vl b_1 l_2),(6,.it 0)]) [(3,1)] [.iter l_3 0])=aC (rk Tryz.prog aE) (aT (decide (0<l_3.length)) (cV (.call 160 [vu 10] []) fun a=>aL a fun b c=>cV (.call 165 [vl b_1 l_2,vl b c] []) fun e=>aL e fun f g=>ob (bh l_0 0) fun h=>cV (.call 160 [vu (IntKind.u64.wrap (IntKind.u8.wrap ((h.toNat:Int)-48)))] []) fun j=>aL j fun k m=>cV (.call 199 [vl f g,vl k m] []) fun n=>aL n fun o p => .call (.at_ 186 0 [false,true,false,true,true] (sv 21 [(0,vs l_0),(3,vl o p),(6,.it 0)]) [] [.iter l_3 (0+(Utf8.decode (ByteArray.mk l_3.toArray) 0).snd)]) .ret) (.ret (vl b_1 l_2,[]))):=
 aF (by kernel_rfl)
theorem ES(b_0:Bool)(l_1:List D)(b_2:Bool):rk Tryz.prog aE (.at_ 169 0 [true,false,true,true,true] (sv 36 [(5,vl b_0 l_1),(31,vb b_2)]) [] [])=aC (rk Tryz.prog aE) (aT b_2 (cV (.call 160 [vu 1] []) fun o_0=>aL o_0 fun b_2 l_3=>cV (.call 199 [vl b_0 l_1,vl b_2 l_3] []) fun o_4=>aL o_4 fun b_6 l_7 => .ret (vl b_6 l_7,[])) (.ret (vl b_0 l_1,[]))):=
 aF (by kernel_rfl)
theorem EO(b_0:Bool)(l_1:List D)(b_2:Bool)(l_3:List D)(n_4:Int):rk Tryz.prog aE (.at_ 187 0 [false,true,true,true] (sv 46 [(0,vl b_0 l_1),(1,vl b_2 l_3),(6,vi n_4)]) [] [])=aC (rk Tryz.prog aE) (aT (decide (n_4<0)) (cV (.call 161 [vl b_0 l_1,vi (IntKind.i64.wrap (0-n_4))] []) fun a=>aL a fun b c => .call (.at_ 187 0 [true,true,false,false,false,true,true,true] (sv 46 [(0,vl b_0 l_1),(1,vl b_2 l_3),(6,vi n_4),(7,vl b c),(8,vl b_2 l_3)]) [] []) .ret) (cV (.call 161 [vl b_2 l_3,vi n_4] []) fun e=>aL e fun f g => .call (.at_ 187 0 [true,true,false,false,false,true,true,true] (sv 46 [(0,vl b_0 l_1),(1,vl b_2 l_3),(6,vi n_4),(7,vl b_0 l_1),(8,vl f g)]) [] []) .ret)):=
 aF (by kernel_rfl)
theorem CQ(b_0:Bool)(l_1:List D)(b_2:Bool)(l_3:List D)(d_4 d_5 d_6 d_7 d_8:D):rk Tryz.prog aE (.at_ 144 0 [true,true,true,true,true,true,true,true] (sv 68 [(4,.p 0 0),(7,vl b_0 l_1),(8,vl b_2 l_3)]) [] [.cells [.d d_4,.d d_5,.d d_6,.d d_7,.d d_8] []])=aC (rk Tryz.prog aE) (cV (.call 187 [vl b_0 l_1,vl b_2 l_3] []) fun o_0=>dY o_0 fun l_1=>aM (l_1.length==2) (aW (l_1.getD 0 (vb false)) fun d_2=>bD .u64 d_2 fun n_3=>aW (l_1.getD 1 (vb false)) fun d_4_1=>dQ d_4_1 fun b_5=>aT (!b_5) (.ret (.t [vu 0,vi 5],[])) (dQ d_4 fun b_6=>aT b_6 (.call (.at_ 144 0 [true,true,true,true,true,true,true,true,true,true,true] (sv 68 [(9,vu (IntKind.u64.wrap ((BitVec.ofInt IntKind.u64.bits n_3 ||| BitVec.ofInt IntKind.u64.bits 9223372036854775808).toNat:Int)))]) [] []) .ret) (.call (.at_ 144 0 [true,true,true,true,true,true,true,true,true,true,true] (sv 68 [(9,vu n_3)]) [] []) .ret)))):=
 aF (by kernel_rfl)
theorem pF(l_0:List UInt8)(n_1:Int)(b_2:Bool):rk Tryz.prog aE (.at_ 213 0 [true,false,false,false,false,true,true] (sv 29 [(0,vs l_0),(4,vi n_1),(20,vb b_2)]) [] [])=aC (rk Tryz.prog aE) (aT b_2 (.call (.at_ 213 0 [false,false,true,true] (sv 29 [(0,vs l_0),(4,vi (IntKind.i64.wrap (n_1+1)))]) [] []) .ret) (aM (decide (0<=n_1/\n_1<=(l_0.length:Int))) (aM (decide (0<=n_1/\n_1<=(l_0.length:Int))) (.ret (.t [vs (List.take (n_1.toNat-0) (List.drop 0 l_0)),vs (List.take (l_0.length-n_1.toNat) (List.drop n_1.toNat l_0))],[]))))):=
 aF (by kernel_rfl)
theorem CU(l_0:List UInt8)(b_1 b_2:Bool)(l_3 l_4:List UInt8)(b_5:Bool)(l_6:List UInt8):rk Tryz.prog aE (.at_ 184 0 [true,false,true,true,true,true] (sv 76 [(0,vs l_0),(2,.p 0 0),(41,vb b_1)]) [] [.cells [vb b_2,vs l_3,vs l_4,vb b_5,vs l_6] []])=aC (rk Tryz.prog aE) (aT b_1 (.ret (.t [.d (.g [.b b_2,.s l_3,.s l_4,.b b_5,.s l_6]),vb false],[])) (aT (l_0==[]) (.ret (.t [.d (.g [.b b_2,.s l_3,.s l_4,.b b_5,.s l_6]),vb true],[])) (ob (bh l_0 0) fun a=>aT ((a.toNat:Int) != 101) (ob (bh l_0 0) fun c => .call (.at_ 184 0 [true,false,true,true,true,true,true,true] (sv 76 [(0,vs l_0),(2,.p 0 0),(53,vb ((c.toNat:Int) != 69))]) [] [.cells [vb b_2,vs l_3,vs l_4,vb b_5,vs l_6] []]) .ret) (.call (.at_ 184 0 [true,false,true,true,true,true,true,true] (sv 76 [(0,vs l_0),(2,.p 0 0),(53,vb false)]) [] [.cells [vb b_2,vs l_3,vs l_4,vb b_5,vs l_6] []]) .ret)))):=
 aF (by kernel_rfl)
theorem r5(l_0:List UInt8)(b_1:Bool)(l_2:List D)(l_3:List UInt8)(m_4:Nat):rk Tryz.prog aE (.at_ 186 0 [false,true,false,true,true] (sv 21 [(0,vs l_0),(3,vl b_1 l_2),(6,.it 0)]) [] [.iter l_3 m_4])=aC (rk Tryz.prog aE) (aT (decide (m_4<l_3.length)) (cV (.call 160 [vu 10] []) fun a=>aL a fun b c=>cV (.call 165 [vl b_1 l_2,vl b c] []) fun e=>aL e fun f g=>ob (bh l_0 (m_4:Int)) fun h=>cV (.call 160 [vu (IntKind.u64.wrap (IntKind.u8.wrap ((h.toNat:Int)-48)))] []) fun j=>aL j fun k m=>cV (.call 199 [vl f g,vl k m] []) fun n=>aL n fun o p => .call (.at_ 186 0 [false,true,false,true,true] (sv 21 [(0,vs l_0),(3,vl o p),(6,.it 0)]) [] [.iter l_3 (m_4+(Utf8.decode (ByteArray.mk l_3.toArray) m_4).snd)]) .ret) (.ret (vl b_1 l_2,[]))):=
 aF (by kernel_rfl)
theorem qi(l_0:List UInt8)(n_1:Int)(l_2:List UInt8)(m_3:Nat)(b_4:Bool)(l_5 l_6:List UInt8)(b_7:Bool)(l_8:List UInt8):rk Tryz.prog aE (.at_ 185 0 [false,true,false,true,true,true,true] (sv 37 [(1,.p 0 0),(4,vs l_0),(5,vi n_1),(14,.it 1)]) [] [.iter l_2 m_3,.cells [vb b_4,vs l_5,vs l_6,vb b_7,vs l_8] []])=aC (rk Tryz.prog aE) (aT (decide (m_3<l_2.length)) (ob (bh l_0 (m_3:Int)) fun a => .call (.at_ 185 0 [false,true,false,true,true,true,true] (sv 37 [(1,.p 0 0),(4,vs l_0),(5,vi (IntKind.i64.wrap (IntKind.i64.wrap (10*n_1)+IntKind.i64.wrap (IntKind.u8.wrap ((a.toNat:Int)-48))))),(14,.it 1)]) [] [.iter l_2 (m_3+(Utf8.decode (ByteArray.mk l_2.toArray) m_3).snd),.cells [vb b_4,vs l_5,vs l_6,vb b_7,vs l_8] []]) .ret) (aT b_7 (.call (.at_ 185 0 [true,true,true,true,true,true] (sv 37 [(5,vi (IntKind.i64.wrap (0-n_1)))]) [] []) .ret) (.call (.at_ 185 0 [true,true,true,true,true,true] (sv 37 [(5,vi n_1)]) [] []) .ret))):=
 aF (by kernel_rfl)
theorem CW(n_0:Int):rk Tryz.prog aE (.at_ 185 0 [true,true,true,true,true,true] (sv 37 [(5,vi n_0)]) [] [])=aC (rk Tryz.prog aE) (aT (decide (n_0 ≥ -400)) (.ret (.t [vi n_0,vb (decide (n_0<=400))],[])) (.ret (.t [vi n_0,vb false],[]))):=
 aF (by kernel_rfl)
theorem CX(b_0:Bool)(l_1:List D)(b_2:Bool)(l_3:List D)(n_4:Int)(b_5:Bool)(l_6:List D)(b_7:Bool)(l_8:List D):rk Tryz.prog aE (.at_ 187 0 [true,true,false,false,false,true,true,true] (sv 46 [(0,vl b_0 l_1),(1,vl b_2 l_3),(6,vi n_4),(7,vl b_5 l_6),(8,vl b_7 l_8)]) [] [])=aC (rk Tryz.prog aE) (cV (.call 169 [vl b_5 l_6,vl b_7 l_8] []) fun a=>aL a fun c e=>cV (.call 113 [vl c e] []) fun f=>aI f fun g=>aT (decide (g<=53)) (cV (.call 168 [vl c e] []) fun h=>aU h fun j=>cV (.call 214 [vu j,vi n_4] []) fun k=>dY k fun m=>aM (m.length==2) (aW (m.getD 0 (vb false)) fun n=>bD .u64 n fun o=>aW (m.getD 1 (vb false)) fun p=>dQ p fun q => .ret (.t [vu o,vb q],[]))) (.call (.at_ 187 0 [false,true,true,true] (sv 46 [(0,vl b_0 l_1),(1,vl b_2 l_3),(6,vi (IntKind.i64.wrap (n_4+1)))]) [] []) .ret)):=
 aF (by kernel_rfl)
theorem Ar(n_0:Int):rk Tryz.prog aE (.at_ 144 0 [true,true,true,true,true,true,true,true,true,true,true] (sv 68 [(9,vu n_0)]) [] [])=aC (rk Tryz.prog aE) (.ret (.t [vu n_0,vi 0],[])):=
 aF (by kernel_rfl)
theorem CV(l_0:List UInt8)(b_1 b_2:Bool)(l_3 l_4:List UInt8)(b_5:Bool)(l_6:List UInt8):rk Tryz.prog aE (.at_ 184 0 [true,false,true,true,true,true,true,true] (sv 76 [(0,vs l_0),(2,.p 0 0),(53,vb b_1)]) [] [.cells [vb b_2,vs l_3,vs l_4,vb b_5,vs l_6] []])=aC (rk Tryz.prog aE) (aT b_1 (.ret (.t [.d (.g [.b b_2,.s l_3,.s l_4,.b b_5,.s l_6]),vb false],[])) (aM (decide ((0:Int)<=1/\1<=(l_0.length:Int))) (cV (.call 212 [vs (List.take (l_0.length-1) (List.drop 1 l_0))] []) fun a=>dY a fun c=>aM (c.length==2) (aW (c.getD 0 (vb false)) fun e=>dQ e fun f=>aW (c.getD 1 (vb false)) fun h=>fF h fun i=>cV (.call 213 [vs i] []) fun j=>dY j fun k=>aM (k.length==2) (aW (k.getD 0 (vb false)) fun l=>fF l fun m=>aW (k.getD 1 (vb false)) fun n=>fF n fun o=>aT (!m==[]) (.ret (.t [.d (.g [.b b_2,.s l_3,.s l_4,.b f,.s m]),vb (o==[])],[])) (.ret (.t [.d (.g [.b b_2,.s l_3,.s l_4,.b f,.s m]),vb false],[]))))))):=
 aF (by kernel_rfl)
end Go.Dn.Dec
namespace Go.Dn.Dec
open Go.Proofs
set_option exponentiation.threshold 5000000
def cI(x y:Nat):Nat:=if y<2*(x%y)\/(2*(x%y)=y/\x / y%2=1)then x / y+1 else x / y
theorem yd:Fits 1:=jD (Nat.one_lt_two_pow (by decide))
theorem wK:rk Tryz.prog aE (Task.call 160 [V.d (D.i .u64 1)] [])=some (.d (.l (nb 1) (ws 1)),[]):=yK 1 (by decide)
theorem Ht{q:Nat}:(IntKind.u64.wrap (((BitVec.ofInt IntKind.u64.bits ((q%18446744073709551616:Nat):Int) &&& BitVec.ofInt IntKind.u64.bits 1).toNat:Nat):Int)==1)=decide (q%2=1):=by
 have e:(BitVec.ofInt IntKind.u64.bits ((q%18446744073709551616:Nat):Int) &&& BitVec.ofInt IntKind.u64.bits 1).toNat=q%2:=by
  show (BitVec.ofInt 64 ((q%18446744073709551616:Nat):Int) &&& BitVec.ofInt 64 1).toNat=_
  rw[BitVec.toNat_and,BitVec.ofInt_natCast,BitVec.toNat_ofNat]
  have:(BitVec.ofInt 64 1).toNat=1:=by decide
  rw[this,Nat.and_one_is_mod];omega
 rw[e,aO,cT (by omega)]
 rcases Nat.mod_two_eq_zero_or_one q with h|h<;>simp[h]
theorem HC(b c:Bool)(x y:Nat)(hx:Fits x)(hx1:Fits (x+1))(hy:Fits (y*2))(hy0:0<y):rk Tryz.prog aE (Task.call 169 [V.d (D.l b (ws x)),V.d (D.l c (ws y))] [])=some (.d (.l (nb (cI x y)) (ws (cI x y))),[]):=by
 rw[f54]
 have hdv:=IZ b c x y hx hy hy0
 have hr:x%y<y:=Nat.mod_lt _ hy0
 have fr:Fits (x%y):=hy.le (by omega)
 have hs:rk Tryz.prog aE (Task.call 161 [V.d (D.l (nb (x%y)) (ws (x%y))),V.d (D.i .i64 1)] [])=some (.d (.l (nb (x%y*2^1)) (ws (x%y*2^1))),[]):=wR (nb (x%y)) (x%y) 1 fr (by decide)
 rw[Nat.pow_one]at hs
 have hc:=IW (nb (x%y*2)) c (x%y*2) y (hy.le (by omega)) (hy.le (by omega))
 have hq:x / y<=x:=Nat.div_le_self _ _
 have hl:=Fa (nb (x / y)) (x / y) (hx.le hq)
 have ha:=z6 (nb (x / y)) (nb 1) (x / y) 1 (hx.le hq) yd
 have t1:∀bb:Bool,rk Tryz.prog aE (Task.at_ 169 0 [true,false,true,true,true] (sv 36 [(5,V.d (D.l (nb (x / y)) (ws (x / y)))),(31,V.d (D.b bb))]) [] [])=some (.d (.l (nb (if bb=true then x / y+1 else x / y)) (ws (if bb=true then x / y+1 else x / y))),[]):=by
  intro bb
  rw[ES]
  cases bb
  ·simp
  ·simp[wK,ha]
 simp only[aZ,hdv,Option.bind_some,List.isEmpty_nil,aR,if_true,o7,List.length_cons,List.length_nil,Nat.zero_add,Nat.reduceAdd,beq_self_eq_true,List.getD_cons_zero,List.getD_cons_succ,bj,ed,nU,hs,hc,bl,aP,aD,hl,Ht,t1]
 unfold cI ef
 by_cases h1:x%y*2<y
 ·simp only[if_pos h1]
  rw[if_neg (by decide),if_neg (by decide)]
  have:¬(y<2*(x%y)\/(2*(x%y)=y/\x / y%2=1)):=by omega
  simp[this]
 ·by_cases h2:y<x%y*2
  ·simp only[if_neg h1,if_pos h2]
   have:(y<2*(x%y)\/(2*(x%y)=y/\x / y%2=1)):=by omega
   simp[this]
  ·simp only[if_neg h1,if_neg h2]
   have e:(y<2*(x%y)\/(2*(x%y)=y/\x / y%2=1))=(x / y%2=1):=propext (by omega)
   simp only[e]
   simp
def dx(q:Nat)(e:Int):Nat×Bool:=
 if q<2^52 then(q,true)else if 971<e then(0,false) else((e+1075).toNat*2^52+(q-2^52),true)
theorem FD{a b k:Nat}(h:b<2^k):a*2^k ||| b=a*2^k+b:=by
 rw[Nat.or_comm,nD h,Nat.add_comm]
theorem AD(q:Nat)(e:Int)(hq:q<2^53)(he1:-1074<=e)(he2:e<=1000000):
  rk Tryz.prog aE (Task.call 214 [V.d (D.i .u64 (q:Int)),V.d (D.i .i64 e)] [])=some (.t [.d (.i .u64 ((dx q e).1:Nat)),.d (.b (dx q e).2)],[]):=by
 rw[f55]
 unfold dx
 have hf:((q:Int).fdiv 4503599627370496==0)=decide (q<2^52):=by
  have:=jC q 4503599627370496
  have e1:(q:Int).fdiv 4503599627370496=((q / 4503599627370496:Nat):Int):=this
  rw[e1]
  by_cases h:q<2^52
  ·rw[Nat.div_eq_of_lt (by simpa using h)];simp;omega
  ·have:q / 4503599627370496≠0:=by omega
   rw[beq_eq_false_iff_ne.2 (by omega)];simp[h]
 by_cases h:q<2^52
 ·simp[hf,h]
 ·by_cases h2:e>971
  ·simp[hf,h,h2]
  ·have hb:(BitVec.ofInt IntKind.u64.bits (q:Int) &&& BitVec.ofInt IntKind.u64.bits 4503599627370495).toNat=q-2^52:=by
    show (BitVec.ofInt 64 (q:Int) &&& BitVec.ofInt 64 4503599627370495).toNat=_
    rw[BitVec.toNat_and,BitVec.ofInt_natCast,BitVec.toNat_ofNat]
    have e2:(BitVec.ofInt 64 4503599627370495).toNat=2^52-1:=by decide
    rw[e2,Nat.and_two_pow_sub_one_eq_mod];omega
   have hw0:IntKind.i64.wrap (e - -1074)=e+1074:=by rw[wrap_i64]<;>omega
   have hw1:IntKind.i64.wrap (e+1074+1)=((e+1075).toNat:Int):=by rw[wrap_i64]<;>omega
   have hE:(e+1075).toNat<=2046:=by omega
   have hE2:1<=(e+1075).toNat:=by omega
   generalize (e+1075).toNat=E at hw1 hE hE2⊢
   have hw2:IntKind.u64.wrap (E:Int)=(E:Int):=by rw[aO];omega
   have hw3:IntKind.u64.wrap ((E:Int)*4503599627370496)=((E*2^52:Nat):Int):=by rw[aO];omega
   have hw4:IntKind.u64.wrap ((q-2^52:Nat):Int)=((q-2^52:Nat):Int):=by rw[aO];omega
   have hor:(BitVec.ofInt IntKind.u64.bits ((E*2^52:Nat):Int) ||| BitVec.ofInt IntKind.u64.bits ((q-2^52:Nat):Int)).toNat=E*2^52+(q-2^52):=by
    have:=jv (a:=E*2^52) (b:=q-2^52) (by omega) (by omega)
    rw[FD (by omega)]at this
    exact this
   have hw5:IntKind.u64.wrap ((E*2^52+(q-2^52):Nat):Int)=((E*2^52+(q-2^52):Nat):Int):=by rw[aO];omega
   have h3:¬(971<e):=h2
   simp only[aP,hf,h,decide_false,Bool.false_eq_true,if_false,h2,hb,hw0,hw1,hw2,hw3,hw4,hor,hw5,aD]
def bC(x y:Nat)(e:Int):Nat:=if e<0 then cI (x*2^(-e).toNat) y else cI x (y*2^e.toNat)
def cB(x y:Nat):Int:=max ((bd x:Int)-bd y-53) (-1074)
def dy(x y:Nat):Nat×Bool:=
 if x=0 then(0,true)
 else if bd (bC x y (cB x y))<=53 then dx (bC x y (cB x y)) (cB x y)
 else if bd (bC x y (cB x y+1))<=53 then dx (bC x y (cB x y+1)) (cB x y+1)
 else dx (bC x y (cB x y+2)) (cB x y+2)
theorem yz{x y k:Nat}(hy:0<y)(h:x<=k*y):cI x y<=k:=by
 have hd:=Nat.div_add_mod x y
 have hr:x%y<y:=Nat.mod_lt _ hy
 have h1:x / y<=k:=Nat.div_le_of_le_mul (by rw[Nat.mul_comm];exact h)
 unfold cI
 split
 ·rcases Nat.lt_or_ge (x / y) k with h2|h2
  ·omega
  ·have:x / y=k:=by omega
   rw[this,Nat.mul_comm]at hd
   omega
 ·exact h1
theorem Dp(x y:Nat)(hy:0<y)(e:Int)(k:Nat)(h:if e<0 then x*2^(-e).toNat<=k*y else x<=k*(y*2^e.toNat)):bC x y e<=k:=by
 unfold bC
 split
 ·rename_i he;rw[if_pos he]at h;exact yz hy h
 ·rename_i he;rw[if_neg he]at h;exact yz (Nat.mul_pos hy (Nat.pow_pos (by decide))) h
theorem Co(x y:Nat)(hx:x≠0)(hy:0<y):bC x y (cB x y+2)<=2^52:=by
 apply Dp x y hy
 have hx2:=ku x
 have hy2:=lV y (by omega)
 have hyp:=iA (n:=y) (by omega)
 have hf:(bd x:Int)-bd y-53<=cB x y:=Int.le_max_left ..
 generalize cB x y=e at hf
 split
 ·rename_i he
  have h1:x*2^(-(e+2)).toNat<=2^(bd x+(-(e+2)).toNat):=by
   rw[Nat.pow_add];exact Nat.mul_le_mul_right _ (Nat.le_of_lt hx2)
  have h2:2^(52+(bd y-1))<=2^52*y:=by rw[Nat.pow_add];exact Nat.mul_le_mul_left _ hy2
  exact Nat.le_trans h1 (Nat.le_trans (Nat.pow_le_pow_right (by decide) (by omega)) h2)
 ·rename_i he
  have h2:2^(52+(bd y-1)+(e+2).toNat)<=2^52*(y*2^(e+2).toNat):=by
   rw[Nat.pow_add,Nat.pow_add,<-Nat.mul_assoc];exact Nat.mul_le_mul_right _ (Nat.mul_le_mul_left _ hy2)
  exact Nat.le_trans (Nat.le_of_lt hx2) (Nat.le_trans (Nat.pow_le_pow_right (by decide) (by omega)) h2)
def nO(n:Nat):Prop:=n<2^4000
theorem nO.fits{n:Nat}(h:nO n):Fits n:=jD (Nat.lt_of_lt_of_le h (Nat.pow_le_pow_right (by decide) (by decide)))
theorem nO.mul_fits{n k:Nat}(h:nO n)(hk:k<=10000):Fits (n*2^k)/\Fits (n*2^k+1)/\Fits (n*2^k*2):=by
 have h1:n*2^k+1<=2^(4000+k):=by rw[Nat.pow_add];exact Nat.mul_lt_mul_of_pos_right h (Nat.pow_pos (by decide))
 have h3:n*2^k*2<=2^(4000+k+1):=by rw[Nat.pow_succ];exact Nat.mul_le_mul_right _ (by omega)
 have h2:2^(4000+k+1)<2^300000:=Nat.pow_lt_pow_right (by decide) (by omega)
 have h4:2^(4000+k)<=2^(4000+k+1):=Nat.pow_le_pow_right (by decide) (by omega)
 exact⟨jD (by omega),jD (by omega),jD (by omega)⟩
theorem nO.bd{n:Nat}(h:nO n):bd n<=4000:=(cf _ _).2 h
theorem nO.fits1{n:Nat}(h:nO n):Fits (n+1):=by have:=(h.mul_fits (k:=0) (by decide)).2.1;rwa[Nat.pow_zero,Nat.mul_one]at this
theorem nO.fits2{n:Nat}(h:nO n):Fits (n*2):=by have:=(h.mul_fits (k:=0) (by decide)).2.2;rwa[Nat.pow_zero,Nat.mul_one]at this
theorem po(b c:Bool)(x y:Nat)(hx:nO x)(hy:nO y)(hy0:0<y)(e:Int)(he1:-1074<=e)(he2:e<=10000):
    rk Tryz.prog aE (Task.at_ 187 0 [false,true,true,true] (sv 46 [(0,V.d (D.l b (ws x))),(1,V.d (D.l c (ws y))),(6,V.d (D.i .i64 e))]) [] [])=
      if bd (bC x y e)<=53 then some (.t [.d (.i .u64 ((dx (bC x y e) e).1:Nat)),.d (.b (dx (bC x y e) e).2)],[])
      else rk Tryz.prog aE (Task.at_ 187 0 [false,true,true,true] (sv 46 [(0,V.d (D.l b (ws x))),(1,V.d (D.l c (ws y))),(6,V.d (D.i .i64 (e+1)))]) [] []):=by
  have hw1:IntKind.i64.wrap (e+1)=e+1:=by rw[wrap_i64]<;>omega
  have main:∀(b1 c1:Bool) (p q:Nat),Fits p->Fits (p+1)->Fits (q*2)->0<q->cI p q=bC x y e->
    rk Tryz.prog aE (Task.at_ 187 0 [true,true,false,false,false,true,true,true] (sv 46 [(0,V.d (D.l b (ws x))),(1,V.d (D.l c (ws y))),(6,V.d (D.i .i64 e)),(7,V.d (D.l b1 (ws p))),(8,V.d (D.l c1 (ws q)))]) [] [])=
     if bd (bC x y e)<=53 then some (.t [.d (.i .u64 ((dx (bC x y e) e).1:Nat)),.d (.b (dx (bC x y e) e).2)],[])
      else rk Tryz.prog aE (Task.at_ 187 0 [false,true,true,true] (sv 46 [(0,V.d (D.l b (ws x))),(1,V.d (D.l c (ws y))),(6,V.d (D.i .i64 (e+1)))]) [] []):=by
    intro b1 c1 p q hp hp1 hq hq0 hn
    rw[CX]
    have h1:=HC b1 c1 p q hp hp1 hq hq0
    rw[hn]at h1
    have hle:cI p q<=p+1:=by
      unfold cI
      have:=Nat.div_le_self p q
      split<;>omega
    have fn:Fits (bC x y e):=hn▸hp1.le hle
    have h2:=qV (nb (bC x y e)) (bC x y e) fn
    have h3:=Fa (nb (bC x y e)) (bC x y e) fn
    by_cases hb:bd (bC x y e)<=53
    · have hb' : ((bd (bC x y e) : Nat) : Int) ≤ 53 := by omega
      have hlt:bC x y e<2^53:=(cf _ _).1 hb
      have hj:=AD (bC x y e) e hlt he1 (by omega)
      have hm:bC x y e%18446744073709551616=bC x y e:=Nat.mod_eq_of_lt (by omega)
      rw[hm]at h3
      rw[if_pos hb]
      simp only[aZ,h1,h2,h3,Option.bind_some,List.isEmpty_nil,aR,if_true,bj,ed,bl,aP,decide_eq_true hb',hj,o7,List.length_cons,List.length_nil,Nat.zero_add,Nat.reduceAdd,beq_self_eq_true,List.getD_cons_zero,List.getD_cons_succ,nU,aD]
    · have hb' : ¬ ((bd (bC x y e) : Nat) : Int) ≤ 53 := by omega
      rw[if_neg hb]
      simp only[aZ,h1,h2,Option.bind_some,List.isEmpty_nil,aR,if_true,bj,ed,bl,aP,decide_eq_false hb',Bool.false_eq_true,if_false,hw1,aD]
      generalize rk Tryz.prog aE (Task.at_ 187 0 [false,true,true,true] _ _ _)=R
      cases R<;>rfl
  rw[EO]
  by_cases he:e<0
  · have hw0 : IntKind.i64.wrap (0 - e) = ((-e).toNat : Int) := by rw [wrap_i64] <;> omega
    have hs:=wR b x (-e).toNat hx.fits (by omega)
    obtain⟨f1,f2,-⟩:=hx.mul_fits (k:=(-e).toNat) (by omega)
    simp only[aP,decide_eq_true he,if_true,hw0,aZ,hs,Option.bind_some,List.isEmpty_nil,aR,bj,ed,aD]
    rw[main _ _ _ _ f1 f2 hy.fits2 hy0 (by rw[bC,if_pos he])]
    split
    · rfl
    · generalize rk Tryz.prog aE (Task.at_ 187 0 [false, true, true, true] _ _ _) = R
      cases R<;>rfl
  · have hw0 : e = (e.toNat : Int) := by omega
    have hs:=wR c y e.toNat hy.fits (by omega)
    rw[<-hw0]at hs
    obtain⟨-,-,f2⟩:=hy.mul_fits (k:=e.toNat) (by omega)
    simp only[aP,decide_eq_false he,Bool.false_eq_true,if_false,aZ,hs,Option.bind_some,List.isEmpty_nil,aR,if_true,bj,ed,aD]
    rw[main _ _ _ _ hx.fits hx.fits1 f2 (Nat.mul_pos hy0 (Nat.pow_pos (by decide))) (by rw[bC,if_neg he])]
    split
    · rfl
    · generalize rk Tryz.prog aE (Task.at_ 187 0 [false, true, true, true] _ _ _) = R
      cases R<;>rfl
theorem CD(b c:Bool)(x y:Nat)(hx:nO x)(hy:nO y)(hy0:0<y):
    rk Tryz.prog aE (Task.call 187 [V.d (D.l b (ws x)),V.d (D.l c (ws y))] [])=some (.t [.d (.i .u64 ((dy x y).1:Nat)),.d (.b (dy x y).2)],[]):=by
  rw[f26]
  have h1:=qV b x hx.fits
  have h2:=qV c y hy.fits
  have hbx:=hx.bd
  have hby:=hy.bd
  by_cases h0:x=0
  · have hb : bd x = 0 := by rw [h0]; rfl
    rw[hb]at h1
    rw[dy,if_pos h0]
    simp[h1]
  · have hb := iA h0
    have hne:(((bd x:Nat):Int)==0)=false:=beq_eq_false_iff_ne.2 (by omega)
    have hw1:IntKind.i64.wrap (((bd x:Nat):Int)-((bd y:Nat):Int))=(bd x:Int)-bd y:=by rw[wrap_i64]<;>omega
    have hw2:IntKind.i64.wrap ((bd x:Int)-bd y-52)=(bd x:Int)-bd y-52:=by rw[wrap_i64]<;>omega
    have hw3:IntKind.i64.wrap ((bd x:Int)-bd y-52-1)=(bd x:Int)-bd y-53:=by rw[wrap_i64]<;>omega
    have hE:(if -1074>(bd x:Int)-bd y-53 then(-1074:Int) else(bd x:Int)-bd y-53)=cB x y:=by
      unfold cB;split<;>omega
    have hE1:-1074<=cB x y:=Int.le_max_right ..
    have hE2:cB x y<=4000:=by unfold cB;omega
    have h3:=Co x y h0 hy0
    have hb3 : bd (bC x y (cB x y + 2)) ≤ 53 := (cf _ _).2 (by have : (2:Nat) ^ 52 < 2 ^ 53 := by decide
                                                               omega)
    simp only[aZ,h1,h2,Option.bind_some,List.isEmpty_nil,aR,if_true,bj,bl,aP,hne,Bool.false_eq_true,if_false,hw1,hw2,hw3,hE,aD]
    rw[po b c x y hx hy hy0 _ hE1 (by omega),po b c x y hx hy hy0 _ (by omega) (by omega),po b c x y hx hy hy0 _ (by omega) (by omega),show cB x y+1+1=cB x y+2 by omega,if_pos hb3]
    rw[dy,if_neg h0]
    split
    · rfl
    · split<;>rfl
def qD(neg:Bool)(v:Nat):Nat:=if neg=true then v ||| 2^63 else v
end Go.Dn.Dec
namespace Go.Dn.Dec
open Go.Proofs
set_option exponentiation.threshold 5000000
theorem nq{q:Nat}(e:Int)(h:q<2^53):(dx q e).1<2^63:=by
 unfold dx
 split
 ·simp only;omega
 ·split
  ·simp only;omega
  ·simp only;omega
theorem xx(x y:Nat)(hy:0<y):(dy x y).1<2^63:=by
 unfold dy
 split
 ·simp only;omega
 ·split
  ·rename_i h;exact nq _ ((cf _ _).1 h)
  ·split
   ·rename_i h;exact nq _ ((cf _ _).1 h)
   ·rename_i h0 _ _
    have:=Co x y h0 hy
    exact nq _ (by omega)
theorem Cj{v:Nat}(h:v<2^63):IntKind.u64.wrap (((BitVec.ofInt IntKind.u64.bits (v:Int) ||| BitVec.ofInt IntKind.u64.bits 9223372036854775808).toNat:Nat):Int)=((v ||| 2^63:Nat):Int)/\v ||| 2^63=v+2^63:=by
 have h1:v ||| 2^63=v+2^63:=by
  have:=nD (c:=v) (a:=1) (k:=63) h
  rwa[Nat.one_mul]at this
 have e63:(2:Nat)^63=9223372036854775808:=by decide
 have h2:(BitVec.ofInt IntKind.u64.bits (v:Int) ||| BitVec.ofInt IntKind.u64.bits 9223372036854775808).toNat=v ||| 2^63:=by
  rw[e63];exact jv (a:=v) (b:=9223372036854775808) (by omega) (by decide)
 rw[h2]
 refine⟨?_,h1⟩
 rw[h1,aO];omega
theorem eT{n:Nat}(h:n<2^4000):nO n:=h
theorem Hx:nO 1:=Nat.one_lt_two_pow (by decide)
theorem Hy{n:Nat}(h:n<18446744073709551616):nO n:=eT (Nat.lt_of_lt_of_le h (show (2:Nat)^64<=2^4000 from Nat.pow_le_pow_right (by decide) (by decide)))
theorem C7(a b:V):([a,b].length==2)=true:=rfl
def aG(c:UInt8):Bool:=decide (48<=c.toNat)&&decide (c.toNat<=57)
theorem ze:∀(r p:List UInt8),(p++r).length<=1000000->
  rk Tryz.prog aE (Task.at_ 213 0 [false,false,true,true] (sv 29 [(0,V.d (D.s (p++r))),(4,V.d (D.i IntKind.i64 (p.length:Int)))]) [] [])=some (.t [.d (.s (p++r.takeWhile aG)),.d (.s (r.dropWhile aG))],[])
 | [],p,hl=>by
  rw[x4,List.append_nil]
  have h:¬((p.length:Int)<(p.length:Int)):=by omega
  have h2:(0:Int)<=(p.length:Int):=by omega
  simp[h,pF,h2]
 |c::r,p,hl=>by
  rw[x4]
  have hi:p.length<(p++c::r).length:=by simp
  have hi':((p.length:Nat):Int)<(((p++c::r).length:Nat):Int):=by omega
  have g:(p++c::r)[p.length]?=some c:=by simp
  have hpl:(p++[c]).length=p.length+1:=by simp
  have hwl:p.length+(r.length+1)<=1000000:=by simpa using hl
  have hw:IntKind.i64.wrap ((p.length:Int)+1)=(((p++[c]).length:Nat):Int):=by rw[hpl,wrap_i64]<;>omega
  have ih:=ze r (p++[c]) (by simpa using hl)
  rw[List.append_assoc,List.singleton_append]at ih
  have hstop:aG c=false->rk Tryz.prog aE (Task.at_ 213 0 [true,false,false,false,false,true,true] (sv 29 [(0,V.d (D.s (p++c::r))),(4,V.d (D.i IntKind.i64 (p.length:Int))),(20,V.d (D.b false))]) [] [])=some (.t [.d (.s (p++(c::r).takeWhile aG)),.d (.s ((c::r).dropWhile aG))],[]):=by
   intro hd
   rw[pF]
   have h2:(0:Int)<=(p.length:Int)/\(p.length:Int)<=(((p++c::r).length:Nat):Int):=by omega
   have e1:List.take (p.length-0) (List.drop 0 (p++c::r))=p:=by simp
   have e2:List.take ((p++c::r).length-p.length) (List.drop p.length (p++c::r))=c::r:=by simp
   simp only[aP,Bool.false_eq_true,if_false,aR,decide_eq_true h2,if_true,Int.toNat_natCast,e1,e2,aD,List.takeWhile_cons,hd,List.dropWhile_cons,List.append_nil]
  simp only[aP,decide_eq_true hi',if_true,bp,g,bJ,Option.bind_some,aA]
  by_cases h1:(c.toNat:Int) ≥ 48
  ·by_cases h2:(c.toNat:Int)<=57
   ·have hd:aG c=true:=by simp[aG];omega
    rw[if_pos (by simpa using h1),pF]
    simp only[aP,decide_eq_true h2,if_true,hw,aA,ih,List.takeWhile_cons,hd,List.dropWhile_cons]
    simp
   ·have hd:aG c=false:=by simp[aG];omega
    rw[if_pos (by simpa using h1),decide_eq_false h2]
    exact hstop hd
  ·have hd:aG c=false:=by simp[aG];omega
   rw[if_neg (by simpa using h1)]
   exact hstop hd
theorem FV(s:List UInt8)(h:s.length<=1000000):rk Tryz.prog aE (Task.call 213 [V.d (D.s s)] [])=some (.t [.d (.s (s.takeWhile aG)),.d (.s (s.dropWhile aG))],[]):=by
 rw[f48]
 have:=ze s [] (by simpa using h)
 simpa using this
def bM(s:List UInt8):Bool×List UInt8:=
 match s with
 | []=>(false,[])
 |c::r=>if c=43 then(false,r)else if c=45 then(true,r) else(false,c::r)
theorem mJ(c d:UInt8):((c.toNat:Int)==(d.toNat:Int))=decide (c=d):=by
 by_cases h:c=d
 ·subst h;simp
 ·have:c.toNat≠d.toNat:=fun e=>h (UInt8.toNat_inj.1 e)
  rw[beq_eq_false_iff_ne.2 (by omega)];simp[h]
theorem Gu(c:UInt8):((c.toNat:Int)==43)=decide (c=43):=mJ c 43
theorem th(c:UInt8):((c.toNat:Int)==45)=decide (c=45):=mJ c 45
theorem IF(c:UInt8):((c.toNat:Int)==46)=decide (c=46):=mJ c 46
theorem Gt(c:UInt8):((c.toNat:Int) != 101)=decide (c≠101):=by
 rw[bne,show ((c.toNat:Int)==101)=decide (c=101)from mJ c 101];by_cases h:c=101<;>simp[h]
theorem IG(c:UInt8):((c.toNat:Int) != 69)=decide (c≠69):=by
 rw[bne,show ((c.toNat:Int)==69)=decide (c=69)from mJ c 69];by_cases h:c=69<;>simp[h]
theorem zm(s:List UInt8):rk Tryz.prog aE (Task.call 212 [V.d (D.s s)] [])=some (.t [.d (.b (bM s).1),.d (.s (bM s).2)],[]):=by
 rw[f47]
 cases s with
 |nil=>simp[x3,bM]
 |cons c r=>
  have e:(List.take ((c::r).length-1) (List.drop 1 (c::r)))=r:=by simp
  have hle:((0:Int)<=1/\(1:Int)<=(((c::r).length:Nat):Int)):=⟨by decide,by rw[List.length_cons];omega⟩
  have hne:(!(c::r)==[])=true:=by simp
  simp only[aP,hne,if_true,l7,List.getElem?_cons_zero,bJ,Option.bind_some,Gu,th,aA,x3,aR,decide_eq_true hle,e,aD,decide_eq_true_eq,bM]
  by_cases h1:c=43
  ·subst h1;simp
  ·by_cases h2:c=45
   ·subst h2;simp
   ·simp[h1,h2]
structure Tx where
 neg:Bool
 whole:List UInt8
 part:List UInt8
 en:Bool
 ex:List UInt8
def Tx.g(t:Tx):List D:=[.b t.neg,.s t.whole,.s t.part,.b t.en,.s t.ex]
def fG(neg:Bool)(w p s:List UInt8):Tx×Bool:=
 if w=[]/\p=[] then(⟨neg,w,p,false,[]⟩,false)
 else match s with
  | []=>(⟨neg,w,p,false,[]⟩,true)
  |c::r=>if c≠101/\c≠69 then(⟨neg,w,p,false,[]⟩,false)
   else(⟨neg,w,p,(bM r).1,(bM r).2.takeWhile aG⟩,decide ((bM r).2.takeWhile aG≠[])&&decide ((bM r).2.dropWhile aG=[]))
def splitB(s:List UInt8):Tx×Bool:=
 let n:=(bM s).1
 let w:=(bM s).2.takeWhile aG
 match (bM s).2.dropWhile aG with
 | []=>fG n w [] []
 |c::r=>if c=46 then(if r.takeWhile aG=[] then(⟨n,w,[],false,[]⟩,false)else fG n w (r.takeWhile aG) (r.dropWhile aG))else fG n w [] (c::r)
theorem pR(s:List UInt8):(bM s).2.length<=s.length:=by
 unfold bM
 cases s with
 |nil=>simp
 |cons c r=>simp only;split<;>(try split)<;>simp
theorem rM(s:List UInt8):(s.dropWhile aG).length<=s.length:=List.dropWhile_sublist aG |>.length_le
theorem GU(l:List UInt8):(l==[])=decide (l=[]):=by cases l<;>simp
theorem pT(neg:Bool)(w p s:List UInt8)(hs:s.length<=1000000):
    aC (rk Tryz.prog aE) (aT (w==[])
    (Tr.call
      (Task.at_ 184 0 [true,false,true,true,true,true] (sv 76 [(0,V.d (D.s s)),(2,V.p 0 0),(41,V.d (D.b (p==[])))]) []
        [Ob.cells [V.d (D.b neg),V.d (D.s w),V.d (D.s p),V.d (D.b false),V.d (D.s [])] []])
      Tr.ret)
    (Tr.call
      (Task.at_ 184 0 [true,false,true,true,true,true] (sv 76 [(0,V.d (D.s s)),(2,V.p 0 0),(41,V.d (D.b false))]) []
        [Ob.cells [V.d (D.b neg),V.d (D.s w),V.d (D.s p),V.d (D.b false),V.d (D.s [])] []])
      Tr.ret))=some (.t [.d (.g (fG neg w p s).1.g),.d (.b (fG neg w p s).2)],[]):=by
  have key:∀b:Bool,b=(w==[]&&p==[])->rk Tryz.prog aE (Task.at_ 184 0 [true,false,true,true,true,true] (sv 76 [(0,V.d (D.s s)),(2,V.p 0 0),(41,V.d (D.b b))]) []
        [Ob.cells [V.d (D.b neg),V.d (D.s w),V.d (D.s p),V.d (D.b false),V.d (D.s [])] []])=some (.t [.d (.g (fG neg w p s).1.g),.d (.b (fG neg w p s).2)],[]):=by
    intro b hb
    rw[CU]
    by_cases h0:w=[]/\p=[]
    · have : b = true := by rw [hb]; simp [h0]
      subst this
      unfold fG
      rw[if_pos h0]
      simp[Tx.g]
    · have : b = false := by rw [hb]; cases w <;> cases p <;> simp_all
      subst this
      unfold fG
      rw[if_neg h0]
      cases s with
      |nil=>simp[Tx.g]
      |cons c r=>
        have hne:((c::r)==([]:List UInt8))=false:=by simp
        have fin:∀bb:Bool,bb=decide (c≠101/\c≠69)->rk Tryz.prog aE (Task.at_ 184 0 [true,false,true,true,true,true,true,true] (sv 76 [(0,V.d (D.s (c::r))),(2,V.p 0 0),(53,V.d (D.b bb))]) []
              [Ob.cells [V.d (D.b neg),V.d (D.s w),V.d (D.s p),V.d (D.b false),V.d (D.s [])] []])=
            some (.t [.d (.g (if c≠101/\c≠69 then((⟨neg,w,p,false,[]⟩:Tx),false) else(⟨neg,w,p,(bM r).1,(bM r).2.takeWhile aG⟩,decide ((bM r).2.takeWhile aG≠[])&&decide ((bM r).2.dropWhile aG=[]))).1.g),.d (.b (if c≠101/\c≠69 then((⟨neg,w,p,false,[]⟩:Tx),false) else(⟨neg,w,p,(bM r).1,(bM r).2.takeWhile aG⟩,decide ((bM r).2.takeWhile aG≠[])&&decide ((bM r).2.dropWhile aG=[]))).2)],[]):=by
          intro bb hbb
          rw[CV]
          by_cases hx:c≠101/\c≠69
          · have : bb = true := by rw [hbb]; simp only [decide_eq_true_eq]; exact hx
            subst this
            rw[if_pos hx]
            simp[Tx.g]
          · have : bb = false := by rw [hbb]; simp only [decide_eq_false_iff_not]; exact hx
            subst this
            rw[if_neg hx]
            have e:(List.take ((c::r).length-1) (List.drop 1 (c::r)))=r:=by simp
            have hle:((0:Int)<=1/\(1:Int)<=(((c::r).length:Nat):Int)):=⟨by decide,by rw[List.length_cons];omega⟩
            have hrl:r.length<=1000000:=by simp at hs;omega
            have hrun:=FV (bM r).2 (Nat.le_trans (pR r) hrl)
            simp only[aP,Bool.false_eq_true,if_false,aR,decide_eq_true hle,if_true,e,aZ,zm,hrun,Option.bind_some,List.isEmpty_nil,o7,C7,List.getD_cons_zero,List.getD_cons_succ,bj,nU,fU,aD,GU]
            by_cases hz:(bM r).2.takeWhile aG=[]<;>simp[hz,Tx.g]
        simp only[aP,Bool.false_eq_true,if_false,hne,l7,List.getElem?_cons_zero,bJ,Option.bind_some,Gt,IG,aA,decide_eq_true_eq]
        by_cases h1:c=101
        · rw [if_neg (by simp [h1])]
          exact fin false (by simp[h1])
        · rw [if_pos (by simp [h1])]
          exact fin _ (by simp[h1])
  simp only[aP,aA]
  by_cases h:w=[]
  · rw[if_pos (by simp[h])];exact key _ (by simp[h])
  · rw[if_neg (by simp[h])];exact key _ (by simp[h])
theorem H5(s:List UInt8)(hs:s.length<=1000000):rk Tryz.prog aE (Task.call 184 [V.d (D.s s)] [])=some (.t [.d (.g (splitB s).1.g),.d (.b (splitB s).2)],[]):=by
 rw[f20]
 have l1:=pR s
 have hrun:=FV (bM s).2 (by omega)
 have l2:=rM (bM s).2
 simp only[aP,if_true,aZ,zm,hrun,Option.bind_some,List.isEmpty_nil,aR,o7,C7,List.getD_cons_zero,List.getD_cons_succ,bj,nU,fU,splitB]
 generalize (bM s).2.dropWhile aG=s2 at l2
 generalize (bM s).2.takeWhile aG=w
 generalize (bM s).1=n
 have ret:∀R:Option Out,(R.bind fun o=>aC (rk Tryz.prog aE) (Tr.ret o))=R:=fun R=>by cases R<;>rfl
 cases s2 with
 |nil=>
  have h0:(!([]:List UInt8)==[])=false:=by simp
  have:=pT n w [] [] (by simp)
  simp only[h0,Bool.false_eq_true,if_false,ret]
  rw[xR]
  rw[aP,if_neg (by decide)]
  exact this
 |cons c r=>
  have h0:(!(c::r)==([]:List UInt8))=true:=by simp
  simp only[h0,if_true,l7,List.getElem?_cons_zero,bJ,Option.bind_some,IF,ret,aA]
  have hl:(c::r).length<=1000000:=by omega
  rw[xR]
  by_cases h1:c=46
  ·have e:(List.take ((c::r).length-1) (List.drop 1 (c::r)))=r:=by simp
   have hle:((0:Int)<=1/\(1:Int)<=(((c::r).length:Nat):Int)):=⟨by decide,by rw[List.length_cons];omega⟩
   have hr:=FV r (by simp at hl;omega)
   have l3:=rM r
   have:=pT n w (r.takeWhile aG) (r.dropWhile aG) (by simp at hl;omega)
   rw[if_pos h1]
   rw[aP,if_pos (by simp[h1])]
   simp only[if_true,aR,decide_eq_true hle,e,aZ,hr,Option.bind_some,List.isEmpty_nil,o7,C7,List.getD_cons_zero,List.getD_cons_succ,bj,fU]
   by_cases hz:r.takeWhile aG=[]
   ·simp[hz,Tx.g]
   ·rw[if_neg hz]
    rw[aP,if_neg (by simp[hz])]
    exact this
  ·rw[if_neg h1]
   have:=pT n w [] (c::r) hl
   rw[aP,if_neg (by simp[h1])]
   exact this
end Go.Dn.Dec
namespace Go.Dn.Dec
open Go.Proofs
set_option exponentiation.threshold 5000000
def bS(c:UInt8):Nat:=c.toNat-48
def eU(v:Nat)(d:List UInt8):Nat:=d.foldl (fun a c=>a*10+bS c) v
def cy(d:List UInt8):Nat:=eU 0 d
theorem dW(c:UInt8):aG c=true↔48<=c.toNat/\c.toNat<=57:=by simp[aG]
theorem kg{c:UInt8}(h:aG c=true):bS c<10:=by have:=(dW c).1 h;unfold bS;omega
theorem mS(s:List UInt8)(i:Nat)(c:UInt8)(h:s[i]?=some c)(hc:c.toNat<128):(Utf8.decode (ByteArray.mk s.toArray) i).2=1:=by
 have hb:((ByteArray.mk s.toArray).get! (i+0)).toNat=c.toNat:=by
  show (s.toArray[i]!).toNat=c.toNat
  have:s.toArray[i]! = c:=by
   rw[Array.getElem!_eq_getD,Array.getD_eq_getD_getElem?,List.getElem?_toArray,h];rfl
  rw[this]
 unfold Utf8.decode
 simp only[hb]
 rw[if_pos hc]
theorem dF{n:Nat}(h:n<=1000):10^n<2^4000:=by
 have h1:10^n<=10^1000:=Nat.pow_le_pow_right (by decide) h
 have h2:10^1000<=16^1000:=Nat.pow_le_pow_left (by decide) 1000
 have h3:(16:Nat)^1000=2^4000:=by rw[show (16:Nat)=2^4 from rfl,<-Nat.pow_mul]
 have h4:(10:Nat)^1000<16^1000:=Nat.pow_lt_pow_left (by decide) (by decide)
 omega
theorem BV:∀(d:List UInt8) (v k:Nat),(∀c∈d,aG c=true)->v<10^k->eU v d<10^(k+d.length)
 | [],v,k,_,h=>h
 |c::d,v,k,hd,h=>by
  have hc:=kg (hd c (by simp))
  have h2:v*10+bS c<10^(k+1):=by rw[Nat.pow_succ];omega
  have:=BV d (v*10+bS c) (k+1) (fun c h=>hd c (by simp[h])) h2
  rw[List.length_cons,show k+(d.length+1)=k+1+d.length by omega]
  exact this
theorem nL{c:UInt8}(h:aG c=true):IntKind.u8.wrap ((c.toNat:Int)-48)=(bS c:Int):=by
 have:=(dW c).1 h
 unfold bS
 rw[wrap_u8]<;>omega
theorem yH:∀(r p:List UInt8) (b:Bool) (v:Nat) (fl:List (Nat×Nat)),(fl=[(3,1)]/\p=[]\/fl=[])->(∀c∈r,aG c=true)->(p++r).length<=100->v<10^p.length->
  rk Tryz.prog aE (Task.at_ 186 0 [false,true,false,true,true] (sv 21 [(0,V.d (D.s (p++r))),(3,V.d (D.l b (ws v))),(6,V.it 0)]) fl [Ob.iter (p++r) p.length])=
   some (.d (.l (if r=[]then b else nb (eU v r)) (ws (eU v r))),[])
 | [],p,b,v,fl,hfl,hd,hl,hv=>by
  rcases hfl with⟨rfl,rfl⟩|rfl
  ·rw[List.append_nil,List.length_nil,xS];simp[eU]
  ·rw[List.append_nil,r5];simp[eU]
 |c::r,p,b,v,fl,hfl,hd,hl,hv=>by
  have hc:=hd c (by simp)
  have hcl:=kg hc
  have hlen:p.length+(r.length+1)<=100:=by simpa using hl
  have hi:p.length<(p++c::r).length:=by simp
  have g:(p++c::r)[p.length]?=some c:=by simp
  have hdec:=mS _ _ _ g (by have:=(dW c).1 hc;omega)
  have hpl:(p++[c]).length=p.length+1:=by simp
  have hv2:v*10+bS c<10^(p++[c]).length:=by rw[hpl,Nat.pow_succ];omega
  have fb:∀k,k<10^(p++[c]).length->Fits k:=fun k hk=>(eT (Nat.lt_of_lt_of_le hk (Nat.le_of_lt (dF (by rw[hpl];omega))))).fits
  have h10:rk Tryz.prog aE (Task.call 160 [V.d (D.i .u64 10)] [])=some (.d (.l (nb 10) (ws 10)),[]):=yK 10 (by decide)
  have hm:=Fj b (nb 10) v 10 (fb v (by omega)) (jD (Nat.lt_of_lt_of_le (show (10:Nat)<2^4 by decide) (Nat.pow_le_pow_right (by decide) (by decide))))
  have hw:IntKind.u64.wrap (bS c:Int)=(bS c:Int):=by rw[aO];omega
  have ho:=yK (bS c) (by omega)
  have ha:=z6 (nb (v*10)) (nb (bS c)) (v*10) (bS c) (fb _ (by omega)) (fb _ (by omega))
  have ih:=yH r (p++[c]) (nb (v*10+bS c)) (v*10+bS c) [] (Or.inr rfl) (fun c h=>hd c (by simp[h])) (by simpa using hl) hv2
  rw[List.append_assoc,List.singleton_append,hpl]at ih
  have hfin:(if r=[]then nb (v*10+bS c)else nb (eU (v*10+bS c) r))=nb (eU v (c::r)):=by
   show _=nb (eU (v*10+bS c) r)
   split
   ·rename_i h;subst h;rfl
   ·rfl
  rw[hfin,show eU (v*10+bS c) r=eU v (c::r)from rfl]at ih
  rw[if_neg (by simp)]
  rcases hfl with⟨rfl,rfl⟩|rfl
  ·rw[List.length_nil]at hdec g
   simp only[List.length_nil,List.nil_append]at *
   rw[xS]
   simp only[aP,decide_eq_true hi,if_true,aZ,h10,Option.bind_some,List.isEmpty_nil,aR,bj,ed,hm,l7,g,bJ,nL hc,hw,ho,ha,hdec,aD,ih]
  ·rw[r5]
   simp only[aP,decide_eq_true hi,if_true,aZ,h10,Option.bind_some,List.isEmpty_nil,aR,bj,ed,hm,bp,g,bJ,nL hc,hw,ho,ha,hdec,aD,ih]
theorem Fw(d:List UInt8)(hd:∀c∈d,aG c=true)(hl:d.length<=100):rk Tryz.prog aE (Task.call 186 [V.d (D.s d)] [])=some (.d (.l (nb (cy d)) (ws (cy d))),[]):=by
 rw[f22,aA]
 have:=yH d [] true 0 [(3,1)] (Or.inl ⟨rfl,rfl⟩) hd (by simpa using hl) (by decide)
 rw[List.nil_append,o9]at this
 refine Eq.trans this ?_
 congr 4
 by_cases h:d=[]
 ·subst h;rfl
 ·rw[if_neg h];rfl
def kC(t:Tx):Int×Bool:=
 if 3<(t.ex.dropWhile (· == 48)).length then(0,false)
 else
  let n:Int:=if t.en=true then -(cy (t.ex.dropWhile (· == 48)):Int) else(cy (t.ex.dropWhile (· == 48)):Int)
  (n,decide (-400<=n)&&decide (n<=400))
theorem yO(t:Tx):∀(r p:List UInt8) (v:Nat) ,(∀c∈r,aG c=true)->(p++r).length<=3->v<10^p.length->
    rk Tryz.prog aE (Task.at_ 185 0 [false,true,false,true,true,true,true] (sv 37 [(1,V.p 0 0),(4,V.d (D.s (p++r))),(5,V.d (D.i .i64 (v:Int))),(14,V.it 1)]) [] [Ob.iter (p++r) p.length,Ob.cells [V.d (D.b t.neg),V.d (D.s t.whole),V.d (D.s t.part),V.d (D.b t.en),V.d (D.s t.ex)] []])=
      (let n:Int:=if t.en=true then -(eU v r:Int) else(eU v r:Int)
       some (.t [.d (.i .i64 n),.d (.b (decide (-400<=n)&&decide (n<=400)))],[]))
  | [],p,v,hd,hl,hv=>by
    have hv1:v<1000:=Nat.lt_of_lt_of_le hv (show 10^p.length<=10^3 from Nat.pow_le_pow_right (by decide) (by simpa using hl))
    have hw:IntKind.i64.wrap (0-(v:Int)) = -(v:Int):=by rw[wrap_i64]<;>omega
    have fin:∀n:Int,rk Tryz.prog aE (Task.at_ 185 0 [true,true,true,true,true,true] (sv 37 [(5,V.d (D.i IntKind.i64 n))]) [] [])=some (.t [.d (.i .i64 n),.d (.b (decide (-400<=n)&&decide (n<=400)))],[]):=by
      intro n
      rw[CW]
      by_cases h:n ≥ -400
      · simp[h]
      · simp[h]
    have hlt:¬p.length<p.length:=by omega
    rw[List.append_nil,qi]
    simp only[aP,decide_eq_false hlt,Bool.false_eq_true,if_false,hw,aA,fin,eU,List.foldl_nil]
    by_cases h:t.en=true<;>simp[h]
  |c::r,p,v,hd,hl,hv=>by
    have hc:=hd c (by simp)
    have hcl:=kg hc
    have hi:p.length<(p++c::r).length:=by simp
    have g:(p++c::r)[p.length]?=some c:=by simp
    have hdec:=mS _ _ _ g (by have:=(dW c).1 hc;omega)
    have hpl:(p++[c]).length=p.length+1:=by simp
    have hlen:p.length+(r.length+1)<=3:=by simpa using hl
    have hv2:v*10+bS c<10^(p++[c]).length:=by rw[hpl,Nat.pow_succ];omega
    have hv1:v<1000:=Nat.lt_of_lt_of_le hv (show 10^p.length<=10^3 from Nat.pow_le_pow_right (by decide) (by omega))
    have ih:=yO t r (p++[c]) (v*10+bS c) (fun c h=>hd c (by simp[h])) (by simpa using hl) hv2
    rw[List.append_assoc,List.singleton_append,hpl]at ih
    have hw1:IntKind.i64.wrap (10*(v:Int))=10*(v:Int):=by rw[wrap_i64]<;>omega
    have hw2:IntKind.i64.wrap (bS c:Int)=(bS c:Int):=by rw[wrap_i64]<;>omega
    have hw3:IntKind.i64.wrap (10*(v:Int)+(bS c:Int))=((v*10+bS c:Nat):Int):=by rw[wrap_i64]<;>omega
    rw[qi]
    simp only[aP,decide_eq_true hi,if_true,bp,g,bJ,Option.bind_some,nL hc,hw1,hw2,hw3,hdec,aA,ih]
    rfl
theorem HO(t:Tx)(hd:∀c∈t.ex,aG c=true):rk Tryz.prog aE (Task.call 185 [V.d (D.g t.g)] [])=some (.t [.d (.i .i64 (kC t).1),.d (.b (kC t).2)],[]):=by
 show rk Tryz.prog aE (Task.call 185 [V.d (D.g [.b t.neg,.s t.whole,.s t.part,.b t.en,.s t.ex])] [])=_
 rw[f21]
 have ht:rk Tryz.prog aE (Task.call 183 [V.d (D.s t.ex),V.d (D.s [48])] [])=some (.d (.s (t.ex.dropWhile (· == 48))),[]):=by
  rw[eQ (g:=e8) rfl];rfl
 have hdd:∀c∈t.ex.dropWhile (· == 48),aG c=true:=fun c h=>hd c ((List.dropWhile_sublist _).subset h)
 unfold kC
 generalize t.ex.dropWhile (· == 48)=d at ht hdd⊢
 by_cases h:3<d.length
 ·have h':(d.length:Int)>3:=by omega
  simp[ht,h,h']
 ·have h':¬(d.length:Int)>3:=by omega
  have hpl:=yO t d [] 0 hdd (by simp;omega) (by decide)
  rw[List.nil_append]at hpl
  rw[if_neg h]
  simp only[aZ,ht,Option.bind_some,List.isEmpty_nil,aR,if_true,bj,fU,aP,decide_eq_false h',Bool.false_eq_true,if_false,aD]
  rw[show ((0:Nat):Int)=0 from rfl,List.length_nil]at hpl
  rw[hpl]
  rfl
def gf(m:Int)(x:Nat):Nat×Nat:=if 0<m then(x*10^m.toNat,1) else(x,10^(-m).toNat)
def dc(s:List UInt8):Nat×Int:=
 if (splitB s).2=false then(0,2)
 else if 60<(splitB s).1.whole.length+(splitB s).1.part.length then(0,4)
 else if (kC (splitB s).1).2=false then(0,5)
 else
  let r:=gf ((kC (splitB s).1).1-(splitB s).1.part.length) (cy ((splitB s).1.whole++(splitB s).1.part))
  if (dy r.1 r.2).2=false then(0,5) else(qD (splitB s).1.neg (dy r.1 r.2).1,0)
def Kd(t:Tx):Prop:=(∀c∈t.whole,aG c=true)/\(∀c∈t.part,aG c=true)/\(∀c∈t.ex,aG c=true)
theorem jT(s:List UInt8):∀c∈s.takeWhile aG,aG c=true:=by
 intro c hc
 induction s with
 |nil=>simp at hc
 |cons a s ih=>
  rw[List.takeWhile_cons]at hc
  split at hc
  ·rename_i h
   rcases List.mem_cons.1 hc with rfl|hc
   ·exact h
   ·exact ih hc
  ·simp at hc
theorem wa(neg:Bool)(w p s:List UInt8)(hw:∀c∈w,aG c=true)(hp:∀c∈p,aG c=true):Kd (fG neg w p s).1:=by
 unfold fG
 split
 ·exact⟨hw,hp,by simp⟩
 ·split
  ·exact⟨hw,hp,by simp⟩
  ·split
   ·exact⟨hw,hp,by simp⟩
   ·exact⟨hw,hp,jT _⟩
theorem iE(neg:Bool)(w p s:List UInt8):(fG neg w p s).1.whole=w/\(fG neg w p s).1.part=p:=by
 unfold fG
 split
 ·exact⟨rfl,rfl⟩
 ·split
  ·exact⟨rfl,rfl⟩
  ·split<;>exact⟨rfl,rfl⟩
theorem take_len(s:List UInt8):(s.takeWhile aG).length<=s.length:=List.takeWhile_sublist aG |>.length_le
theorem Bc(s:List UInt8):(splitB s).1.whole.length<=s.length/\(splitB s).1.part.length<=s.length:=by
 have h1:=pR s
 have h2:=take_len (bM s).2
 have h3:=rM (bM s).2
 unfold splitB
 simp only
 split
 ·rw[(iE _ _ _ _).1,(iE _ _ _ _).2];exact⟨by omega,by simp⟩
 ·rename_i c r e
  rw[e,List.length_cons]at h3
  split
  ·split
   ·exact⟨by simp only;omega,by simp⟩
   ·have h4:=take_len r
    rw[(iE _ _ _ _).1,(iE _ _ _ _).2];exact⟨by omega,by omega⟩
  ·rw[(iE _ _ _ _).1,(iE _ _ _ _).2];exact⟨by omega,by simp⟩
theorem DP(s:List UInt8):Kd (splitB s).1:=by
 unfold splitB
 have h1:=jT (bM s).2
 simp only
 split
 ·exact wa _ _ _ _ h1 (by simp)
 ·split
  ·split
   ·exact⟨h1,by simp,by simp⟩
   ·exact wa _ _ _ _ h1 (jT _)
  ·exact wa _ _ _ _ h1 (by simp)
theorem wF(d:List UInt8)(hd:∀c∈d,aG c=true):cy d<10^d.length:=by
 have:=BV d 0 0 hd (by decide)
 rwa[Nat.zero_add]at this
theorem yT{m:Int}{x:Nat}(hx:x<10^60)(h1:-500<=m)(h2:m<=500):nO (gf m x).1/\nO (gf m x).2/\0<(gf m x).2:=by
 unfold gf
 split
 ·refine⟨?_,Hx,Nat.one_pos⟩
  refine eT (Nat.lt_trans ?_ (dF (n:=60+m.toNat) (by omega)))
  rw[Nat.pow_add]
  exact Nat.mul_lt_mul_of_pos_right hx (Nat.pow_pos (by decide))
 ·exact⟨eT (Nat.lt_trans hx (dF (by decide))),eT (dF (by omega)),Nat.pow_pos (by decide)⟩
theorem HN{t:Tx}(h:(kC t).2=true):-400<=(kC t).1/\(kC t).1<=400:=by
 unfold kC at h⊢
 split
 ·rename_i h3;rw[if_pos h3]at h;simp at h
 ·rename_i h3;rw[if_neg h3]at h
  simpa using h
theorem HL(s:List UInt8)(hs:s.length<=1000000):rk Tryz.prog aE (Task.call 144 [V.d (D.s s)] [])=some (.t [.d (.i .u64 ((dc s).1:Nat)),.d (.i .i64 (dc s).2)],[]):=by
 rw[f13]
 have h1:=H5 s hs
 obtain⟨o1,o2,o3⟩:=DP s
 obtain⟨k1,k2⟩:=Bc s
 unfold dc
 generalize splitB s=T at *
 obtain⟨t,is⟩:=T
 simp only at o1 o2 o3 k1 k2 h1⊢
 have ones:([V.d (D.b t.neg),V.d (D.s t.whole),V.d (D.s t.part),V.d (D.b t.en),V.d (D.s t.ex)].all V.one)=true:=rfl
 have g0:t.g.getD 0 (D.b false) = .b t.neg:=rfl
 have g1:t.g.getD 1 (D.b false) = .s t.whole:=rfl
 have g2:t.g.getD 2 (D.b false) = .s t.part:=rfl
 have g3:t.g.getD 3 (D.b false) = .b t.en:=rfl
 have g4:t.g.getD 4 (D.b false) = .s t.ex:=rfl
 have g5:t.g.length=5:=rfl
 have hpw:=HO t o3
 rw[show t.g=[.b t.neg,.s t.whole,.s t.part,.b t.en,.s t.ex]from rfl]at hpw
 simp only[aZ,h1,Option.bind_some,List.isEmpty_nil,aR,if_true,o7,C7,List.getD_cons_zero,List.getD_cons_succ,bj,nU,sn,g5,aP,g0,g1,g2,g3,g4,ones,fU]
 cases is with
 |false=>simp
 |true=>
  simp only[Bool.not_true,Bool.false_eq_true,if_false]
  by_cases hl:60<t.whole.length+t.part.length
  ·have hw:IntKind.i64.wrap ((t.whole.length:Int)+(t.part.length:Int))=(t.whole.length:Int)+(t.part.length:Int):=by rw[wrap_i64]<;>omega
   have h2:(t.whole.length:Int)+(t.part.length:Int)>60:=by omega
   rw[hw,decide_eq_true h2,if_pos rfl,if_neg (by decide),if_pos hl]
   rfl
  ·have hw:IntKind.i64.wrap ((t.whole.length:Int)+(t.part.length:Int))=(t.whole.length:Int)+(t.part.length:Int):=by rw[wrap_i64]<;>omega
   have h2:¬(t.whole.length:Int)+(t.part.length:Int)>60:=by omega
   rw[hw,decide_eq_false h2,if_neg (by decide),if_neg (by decide),if_neg hl]
   simp only[aZ,hpw,Option.bind_some,List.isEmpty_nil,aR,if_true,o7,C7,List.getD_cons_zero,List.getD_cons_succ,bj,nU,bl,aP]
   have hple:=@HN t
   generalize kC t=N at hpw hple⊢
   obtain⟨n,ok⟩:=N
   cases ok with
   |false=>simp
   |true=>
    have hn:=hple rfl
    simp only at hn
    have hcat:t.whole.length+t.part.length<4611686018427387904:=by omega
    have hdig:∀c∈t.whole++t.part,aG c=true:=fun c hc=>(List.mem_append.1 hc).elim (o1 c) (o2 c)
    have hnum:=Fw (t.whole++t.part) hdig (by simp;omega)
    have hx:cy (t.whole++t.part)<10^60:=Nat.lt_of_lt_of_le (wF _ hdig) (Nat.pow_le_pow_right (by decide) (by simp;omega))
    generalize cy (t.whole++t.part)=x at hnum hx⊢
    have hwm:IntKind.i64.wrap (n-(t.part.length:Int))=n-(t.part.length:Int):=by rw[wrap_i64]<;>omega
    have hm1:-500<=n-(t.part.length:Int):=by omega
    have hm2:n-(t.part.length:Int)<=500:=by omega
    generalize n-(t.part.length:Int)=m at hwm hm1 hm2⊢
    obtain⟨r1,r2,r3⟩:=yT hx hm1 hm2
    have fin:∀b c:Bool,rk Tryz.prog aE (Task.at_ 144 0 [true,true,true,true,true,true,true,true] (sv 68 [(4,V.p 0 0),(7,V.d (D.l b (ws (gf m x).1))),(8,V.d (D.l c (ws (gf m x).2)))]) []
      [Ob.cells [V.d (D.b t.neg),V.d (D.s t.whole),V.d (D.s t.part),V.d (D.b t.en),V.d (D.s t.ex)] []])=
     some (.t [.d (.i .u64 (((if (dy (gf m x).1 (gf m x).2).2=false then((0:Nat),(5:Int)) else(qD t.neg (dy (gf m x).1 (gf m x).2).1,0))).1:Nat)),.d (.i .i64 ((if (dy (gf m x).1 (gf m x).2).2=false then((0:Nat),(5:Int)) else(qD t.neg (dy (gf m x).1 (gf m x).2).1,0))).2)],[]):=by
     intro b c
     rw[CQ]
     have hb:=CD b c _ _ r1 r2 r3
     have hlt:=xx (gf m x).1 (gf m x).2 r3
     have hsg:=(Cj hlt).1
     generalize dy (gf m x).1 (gf m x).2=B at hb hlt hsg⊢
     obtain⟨v,ok⟩:=B
     simp only at hlt hsg hb⊢
     simp only[aZ,hb,Option.bind_some,List.isEmpty_nil,aR,if_true,o7,C7,List.getD_cons_zero,List.getD_cons_succ,bj,nU,bl,aP,hsg,Ar,aD]
     cases ok with
     |false=>simp
     |true=>
      cases ht:t.neg<;>simp[qD]
    simp only[Bool.not_true,Bool.false_eq_true,if_false,decide_eq_true hcat,if_true,hnum,wK,Option.bind_some,List.isEmpty_nil,bj,ed,aR,hwm,aD]
    by_cases hm:0<m
    ·have e:m=(m.toNat:Int):=by omega
     have ht:=Gh m.toNat (by omega)
     rw[<-e]at ht
     have hmul:=Fj (nb x) (nb (10^m.toNat)) x (10^m.toNat) (eT (Nat.lt_trans hx (dF (by decide)))).fits (eT (dF (by omega))).fits
     have er:gf m x=(x*10^m.toNat,1):=by rw[gf,if_pos hm]
     rw[er]at fin⊢
     have hm':m>0:=hm
     simp only[decide_eq_true hm',aP,wK,ht,hmul,Option.bind_some,List.isEmpty_nil,if_true,bj,ed,aR,aZ,aD,fin,Bool.true_eq_false,if_false]
    ·have hwn:IntKind.i64.wrap (0-m)=((-m).toNat:Int):=by rw[wrap_i64]<;>omega
     have ht:=Gh (-m).toNat (by omega)
     have er:gf m x=(x,10^(-m).toNat):=by rw[gf,if_neg hm]
     rw[er]at fin⊢
     have hm':¬m>0:=hm
     simp only[decide_eq_false hm',hwn,aP,wK,ht,Option.bind_some,List.isEmpty_nil,if_true,bj,ed,aR,aZ,aD,fin,Bool.true_eq_false,Bool.false_eq_true,if_false]
end Go.Dn.Dec
namespace Go.Dn.Dec
open Go.Proofs
theorem Hu(n:Nat)(h:(65<=n/\n<=70)\/(97<=n/\n<=102)):IntKind.u8.wrap ((BitVec.ofInt IntKind.u8.bits (n:Int) ||| BitVec.ofInt IntKind.u8.bits 32).toNat:Int)=if 97<=n then(n:Int) else(n:Int)+32:=by
 have:n=65\/n=66\/n=67\/n=68\/n=69\/n=70\/n=97\/n=98\/n=99\/n=100\/n=101\/n=102:=by omega
 rcases this with rfl|rfl|rfl|rfl|rfl|rfl|rfl|rfl|rfl|rfl|rfl|rfl<;>rfl
theorem pJ(c:UInt8):mB c=true↔(48<=c.toNat/\c.toNat<=57)\/(97<=c.toNat/\c.toNat<=102)\/(65<=c.toNat/\c.toNat<=70):=by
 unfold mB
 simp only[Bool.or_eq_true,Bool.and_eq_true,decide_eq_true_eq]
 omega
theorem Hv(c:UInt8)(h:mB c=true)(h2:¬c.toNat<=57):rk Tryz.prog gq (Task.call 223 [V.d (D.i .u8 (c.toNat:Int))] [])=some (.d (.i .u8 ((bT c:Int)+87)),[]):=by
 have h3:=(pJ c).1 h
 rw[L2,aD,Hu c.toNat (by omega)]
 unfold bT
 rw[if_neg h2]
 by_cases h4:97<=c.toNat
 ·rw[if_pos h4,if_pos h4,show ((c.toNat-87:Nat):Int)+87=(c.toNat:Int) by omega]
 ·rw[if_neg h4,if_neg h4,show ((c.toNat-55:Nat):Int)+87=(c.toNat:Int)+32 by omega]
theorem pH(c:UInt8)(h:mB c=true):bT c<16:=by
 have:=(pJ c).1 h
 unfold bT
 split
 ·omega
 ·split<;>omega
def LO(s:List UInt8)(l2:List UInt8)(v:Int)(i:Nat):List (Nat×V):=
 [(1,V.d (D.i IntKind.i64 16)),(8,V.d (D.b false)),(9,V.d (D.s l2)),(10,V.d (D.i IntKind.u64 1152921504606846976)),(11,V.d (D.i IntKind.u64 18446744073709551615)),(12,V.d (D.b false)),(13,V.d (D.i IntKind.u64 v)),
   (99,V.d (D.l false (ofBytes s))),(100,V.d (D.i IntKind.i64 (s.length:Int))),(101,V.d (D.i IntKind.i64 (i:Int)))]
theorem B7(l2:List UInt8):∀(r p:List UInt8) (v:Nat),(∀c∈r,mB c=true)->(p++r).length<=16->v<16^p.length->
  rk Tryz.prog gq (Task.at_ 207 0 [false,true,false,true,true,true,true,true,true,true,true,true,true,true] (sv 172 (LO (p++r) l2 (v:Int) p.length)) [] [])=
   some (.t [.d (.i .u64 ((r.foldl (fun a c=>a*16+bT c) v:Nat):Int)),.nifc],[])
 | [],p,v,hd,hl,hv=>by
  unfold LO
  rw[List.append_nil,o5,bc (by omega),aY,aA,wY,aY,aD]
  rfl
 |c::r,p,v,hd,hl,hv=>by
  have hc:=hd c (by simp)
  have hc3:=(pJ c).1 hc
  have hx:=pH c hc
  have hlen:(p++c::r).length=p.length+(r.length+1):=by simp
  have hi:p.length<(p++c::r).length:=by omega
  have hel:(ofBytes (p++c::r))[p.length]?=some (.i .u8 (c.toNat:Int)):=by unfold ofBytes;simp
  have g1:bh (ofBytes (p++c::r)) (p.length:Int)=some (.i .u8 (c.toNat:Int)):=by rw[bp];exact hel
  have g2:(ofBytes (p++c::r))[(p.length:Int).toNat]?=some (.i .u8 (c.toNat:Int)):=by rw[Int.toNat_natCast];exact hel
  have hpl:(p++[c]).length=p.length+1:=by simp
  have hv2:v*16+bT c<16^(p++[c]).length:=by rw[hpl,Nat.pow_succ];omega
  have hp15:p.length<=15:=by omega
  have hv1:v<1152921504606846976:=Nat.lt_of_lt_of_le hv (Nat.le_trans (Nat.pow_le_pow_right (by decide) hp15) (by decide))
  have ih:=B7 l2 r (p++[c]) (v*16+bT c) (fun c h=>hd c (by simp[h])) (by simpa using hl) hv2
  rw[List.append_assoc,List.singleton_append,hpl]at ih
  have w16:IntKind.u64.wrap 16=16:=rfl
  have w16b:IntKind.u8.wrap 16=16:=rfl
  have w1:IntKind.u64.wrap ((v:Int)*16)=((v*16:Nat):Int):=by rw[aO];omega
  have w2:IntKind.u64.wrap ((bT c:Nat):Int)=((bT c:Nat):Int):=by rw[aO];omega
  have w3:IntKind.u64.wrap (((v*16:Nat):Int)+((bT c:Nat):Int))=((v*16+bT c:Nat):Int):=by rw[aO];omega
  have w4:IntKind.i64.wrap ((p.length:Int)+1)=((p.length+1:Nat):Int):=by rw[wrap_i64]<;>omega
  unfold LO at ih⊢
  rw[o5,bf (by omega),aJ g1]
  show aC _ (aM true _)=_
  rw[ba,aJ g2,aJ (a:=D.i .u8 (c.toNat:Int)) (by rfl),bL,bO (by omega),aA,qT,aY,bf (by omega),aA]
  by_cases h57:c.toNat<=57
  ·have e:IntKind.u8.wrap ((c.toNat:Int)-48)=((bT c:Nat):Int):=by unfold bT;rw[if_pos h57,wrap_u8]<;>omega
   rw[decide_eq_true (show (c.toNat:Int)<=57 by omega),jX,bk,e,w16b,bc (by omega),bc (by omega),w16,w1,w2,w3,bc (by omega),aA,decide_eq_false (by omega),jY,aY,w4,aA,ih]
   rfl
  ·have hlw:=Hv c hc h57
   have e1:IntKind.u8.wrap ((bT c:Int)+87-97)=IntKind.u8.wrap ((bT c:Int)-10):=by congr 1;omega
   have h10:10<=bT c:=by unfold bT;rw[if_neg h57];split<;>omega
   have e2:IntKind.u8.wrap ((bT c:Int)-10)=(bT c:Int)-10:=by rw[wrap_u8]<;>omega
   have e3:IntKind.u8.wrap ((bT c:Int)-10+10)=((bT c:Nat):Int):=by rw[wrap_u8]<;>omega
   rw[decide_eq_false (show ¬(c.toNat:Int)<=57 by omega),jX,aY,de hlw,bf (by omega),de hlw,aA,decide_eq_true (by omega),pZ,bk,de hlw,e1,e2,e3,w16b,
    bc (by omega),bc (by omega),w16,w1,w2,w3,bc (by omega),aA,decide_eq_false (by omega),jY,aY,w4,aA,ih]
   rfl
theorem LP(s:List UInt8)(hne:s≠[])(hl:s.length<=16)(hd:∀c∈s,mB c=true):
  rk Tryz.prog gq (Task.call 207 [V.d (D.s s),V.d (D.i .i64 16),V.d (D.i .i64 64)] [])=some (.t [.d (.i .u64 ((fN s:Nat):Int)),.nifc],[]):=by
 have hL:=B7 s s [] 0 hd (by simpa using hl) (by decide)
 rw[List.nil_append]at hL
 unfold fN
 rw[L1,cj (by cases s with|nil=>exact absurd rfl hne|cons c s=>rfl),aA,Bn,bk,bO (by decide),bc (by decide),aA,Bp,decide_eq_false (by decide),aY,aA,
  Bm,bO (by decide),cm rfl,aA,Bo,aH (by decide),Bool.and_true,aH (by omega),aA]
 rw[show (ofBytes s).length=s.length from List.length_map ..]
 exact hL
end Go.Dn.Dec
namespace Go.Dn.Dec
open Go.Proofs Go.RowKit Go.Sort
set_option maxRecDepth 100000
theorem mixed:Tryz.prog.follows .mixedOrders=true:=by kernel_rfl
theorem names : (Tryz.prog.funcs.toList.all fun f => f.name != "runtime.NumGoroutine") = true := by kernel_rfl
theorem eS (k : Nat) (fn : Func) (h : Tryz.prog.funcs[k]? = some fn) : fn.name ≠ "runtime.NumGoroutine" := by
 have h1:fn∈Tryz.prog.funcs.toList:=by rw[<-Array.getElem?_toList]at h;exact List.mem_of_getElem? h
 have:=List.all_eq_true.1 names fn h1
 simpa using this
theorem Gx{G:Sg}{x:V}{vs:Array Value}(hr:cK G [x] vs.toList):∃v,vs=#[v]/\RV G x v:=by
 obtain⟨v,hv,hx⟩:=cK.get hr (i:=0) rfl
 have hl:=cK.length hr
 refine⟨v,?_,hx⟩
 apply Array.ext'
 match hvs:vs.toList,hl,hv with
 | [y],_,hv=>simp at hv;subst hv;rfl
theorem lR{G:Sg}{x y:V}{vs:Array Value}(hr:cK G [x,y] vs.toList):∃v u,vs=#[v,u]/\RV G x v/\RV G y u:=by
 obtain⟨v,hv,hx⟩:=cK.get hr (i:=0) rfl
 obtain⟨u,hu,hy⟩:=cK.get hr (i:=1) rfl
 have hl:=cK.length hr
 refine⟨v,u,?_,hx,hy⟩
 apply Array.ext'
 match hvs:vs.toList,hl,hv,hu with
 | [a,b],_,hv,hu=>simp at hv hu;subst hv;subst hu;rfl
theorem below_grow(w:World)(k:Nat)(os:Array Obj):Below w.heap.size w (grow (w.drewN k) os):=
 ⟨rfl,rfl,rfl,by simp[grow,World.drewN],fun i hi=>heap_grow_old _ _ (by simpa using hi)⟩
theorem fh{k:Nat}{args:List V}{S:List Ob}{x:D}{v:Value}{fn:Func}(hf:Tryz.prog.funcs[k]?=some fn)(hb:fn.body.isSome=true)(hx:∀F,RD F x v)
  (h:∀w G vs,Inv w G S->cK G args vs.toList->Calls Tryz.prog k vs w fun e w'=>e = .returned v/\(w'=w\/∃n os,w'=grow (w.drewN n) os)):bQ Tryz.prog k args S (.d x,S):=by
 refine bQ.of_below fun w G vs hI hr=>?_
 refine fJ.of_calls hf hb (eS k fn hf) ((h w G vs hI hr).mono ?_)
 rintro e w' ⟨rfl,hw⟩
 refine⟨v,rfl,?_,by simp only[RV];exact hx _⟩
 rcases hw with rfl|⟨n,os,rfl⟩
 ·exact Below.refl _ _
 ·exact below_grow _ _ _
theorem Ge {w : World} {G : Sg} {S : List Ob} (hI : Inv w G S) : Lib.TabIs Tryz.prog w "internal/strconv.uint64pow10" .u64 Lib.pow10Tab := by
 obtain⟨⟨arr,x,y,e,rfl⟩,_⟩:=hI.tb 0 _ rfl
 have hg : Tryz.prog.globalNamed "internal/strconv.uint64pow10" = some 0 := by kernel_rfl
 unfold Lib.TabIs World.var?
 rw[hg]
 simp only[Option.bind_some,e]
theorem decDigits_eq(n:Nat):Lib.decDigits n=fM n:=by
 induction n using Nat.strongRecOn with
 |ind n ih=>
  rw[Lib.decDigits,kf]
  split
  ·rfl
  ·rw[ih _ (by omega)]
theorem Ho(n:Int):Lib.itoa n=js n:=by
 unfold Lib.itoa js
 split<;>rw[decDigits_eq]
theorem CC(n:Nat)(h:n<4294967296):Lib.bitLen n=bd n:=by
 by_cases h0:n=0
 ·subst h0;rfl
 ·obtain⟨a,b,c⟩:=Lib.bitLenAux_bounds 64 n (by omega) h0
  have hb:Lib.bitLen n=Lib.bitLenAux 64 n:=rfl
  rw[hb]
  have:=vS (n:=n) (k:=Lib.bitLenAux 64 n-1) b (by rw[Nat.sub_add_cancel a];exact c)
  omega
theorem te{args:List V}{S:List Ob}{o:Out}(h:kK args S=some o):bQ Tryz.prog 117 args S o:=by
 unfold kK at h
 split at h
 ·rename_i x c
  split at h
  ·rename_i hc
   injection h with h;subst h
   refine fh (v := .string ⟨(Lib.trimRightB x c).toArray⟩) Tryz.func117 (by kernel_rfl) (fun F=>by simp only[RD];rfl) fun w G vs hI hr=>?_
   obtain⟨v,u,rfl,h1,h2⟩:=lR hr
   simp only[RV,RD]at h1 h2
   subst h1;subst h2
   have hs:(⟨x.toArray⟩:ByteArray).size<=9223372036854775807:=by
    show x.toArray.size<=_
    simp;omega
   exact(Tryz.strings_TrimRight_one ⟨x.toArray⟩ c hc.1 w hs).mono fun e w' h=>⟨h.1,.inl h.2⟩
  ·cases h
 ·cases h
theorem ye{k:Nat}{args:List V}{S:List Ob}{x:V}{v:Value}{fn:Func}(hf:Tryz.prog.funcs[k]?=some fn)(hb:fn.body.isSome=true)(hx:∀G,RV G x v)
  (h:∀w G vs,Inv w G S->cK G args vs.toList->Calls Tryz.prog k vs w fun e w'=>e = .returned v/\Below w.heap.size w w'):bQ Tryz.prog k args S (x,S):=by
 refine bQ.of_below fun w G vs hI hr=>?_
 refine fJ.of_calls hf hb (eS k fn hf) ((h w G vs hI hr).mono ?_)
 rintro e w' ⟨rfl,hw⟩
 exact⟨v,rfl,hw,hx _⟩
theorem Ia{w:World}{G:Sg}{S:List Ob}(hI:Inv w G S):k8 w:=fun b p hp=>(hI.tb b p hp).1
theorem Ff{w:World}{G:Sg}{S:List Ob}(hI:Inv w G S):∃m:Int,w.cell? ⟨1,0,none⟩=some (.int .i64 m):=by
 obtain⟨⟨arr,x,y,e,m,rfl⟩,_⟩:=hI.tb 1 _ rfl
 exact⟨m,by simp[World.cell?,e]⟩
theorem Tryz.strings_TrimLeft_set(s:ByteArray)(w:World):
  Calls Tryz.prog 183 #[.string s,.string ⟨#[43,45]⟩] w fun e w'=>e = .returned (.string ⟨(Lib.trimLeftS s.data.toList [43,45]).toArray⟩)/\Below w.heap.size w w':=
 Any.strings_TrimLeft_laid Go.Proofs.Tryz.lays161 (by kernel_rfl) s ⟨#[43,45]⟩ w (by decide) (ascii_of_all (by decide))
theorem tN{args:List V}{S:List Ob}{o:Out}(h:e8 args S=some o):bQ Tryz.prog 183 args S o:=by
 unfold e8 at h
 split at h
 ·rename_i x c
  split at h
  ·rename_i hc
   injection h with h;subst h
   refine fh (v := .string ⟨(Lib.trimLeftB x c).toArray⟩) Tryz.func183 (by kernel_rfl) (fun F=>by simp only[RD];rfl) fun w G vs hI hr=>?_
   obtain⟨v,u,rfl,h1,h2⟩:=lR hr
   simp only[RV,RD]at h1 h2
   subst h1;subst h2
   exact(Tryz.strings_TrimLeft_one ⟨x.toArray⟩ c hc w).mono fun e w' h=>⟨h.1,.inl h.2⟩
  ·cases h
 ·rename_i x
  split at h
  ·rename_i hc
   injection h with h;subst h
   refine ye (v := .string ⟨(Lib.trimLeftS x [43,45]).toArray⟩) Tryz.func183 (by kernel_rfl) (fun G=>?_) fun w G vs hI hr=>?_
   ·simp only[RV,RD]
    have e:Lib.trimLeftS x [43,45]=x.dropWhile fun c=>c==43||c==45:=by
     unfold Lib.trimLeftS
     congr 1
     funext c
     rw[Bool.eq_iff_iff,List.contains_iff_mem]
     simp
    rw[e]
   ·obtain⟨v,u,rfl,h1,h2⟩:=lR hr
    simp only[RV,RD]at h1 h2
    subst h1;subst h2
    exact Dec.Tryz.strings_TrimLeft_set ⟨x.toArray⟩ w
  ·cases h
 ·cases h
theorem find_index(t:List UInt8):∀x:List UInt8,Lib.index x t=mm (cc t x)
 | []=>by
  unfold Lib.index cc
  cases t<;>rfl
 |c::r=>by
  have ih:=find_index t r
  unfold Lib.index cc
  rw[ih]
  cases h:t.isPrefixOf (c::r) with
  |true=>rfl
  |false=>
   rw[if_neg (show ¬(false=true) by decide),if_neg (show ¬(false=true) by decide)]
   cases cc t r with
   |none=>rfl
   |some n=>
    have hn:((n:Int) == -1)=false:=beq_eq_false_iff_ne.2 (by omega)
    show (if ((n:Int) == -1)=true then(-1:Int) else(n:Int)+1)=_
    rw[hn,if_neg (by decide)]
    show _=((n+1:Nat):Int)
    omega
theorem tE(t x:List UInt8):Lib.contains x t=(cc t x).isSome:=by
 unfold Lib.contains
 rw[find_index]
 cases cc t x with
 |none=>rfl
 |some n=>exact decide_eq_true (Int.natCast_nonneg n)
theorem uA(c:UInt8):∀x:List UInt8,Lib.indexByte x c=mm (x.findIdx? fun d=>d==c)
 | []=>rfl
 |d::r=>by
  have ih:=uA c r
  unfold Lib.indexByte
  rw[ih,List.findIdx?_cons]
  cases h:d==c with
  |true=>rfl
  |false=>
   rw[if_neg (show ¬(false=true) by decide),if_neg (show ¬(false=true) by decide)]
   cases r.findIdx? (fun d=>d==c) with
   |none=>rfl
   |some n=>
    have hn:((n:Int) == -1)=false:=beq_eq_false_iff_ne.2 (by omega)
    show (if ((n:Int) == -1)=true then(-1:Int) else(n:Int)+1)=_
    rw[hn,if_neg (by decide)]
    show _=((n+1:Nat):Int)
    omega
theorem wT(x:List UInt8)(h:x.length<=100000):(⟨x.toArray⟩:ByteArray).size<4294967281:=by
 show x.toArray.size<_
 simp;omega
theorem tB{args:List V}{S:List Ob}{o:Out}(h:gU args S=some o):bQ Tryz.prog 57 args S o:=by
 unfold gU at h
 split at h
 ·rename_i x t
  split at h
  ·rename_i hc
   injection h with h;subst h
   refine fh (v := .bool (Lib.contains x t)) Tryz.func57 (by kernel_rfl) (fun F=>by simp only[RD];rw[tE]) fun w G vs hI hr=>?_
   obtain⟨v,u,rfl,h1,h2⟩:=lR hr
   simp only[RV,RD]at h1 h2
   subst h1;subst h2
   obtain⟨m,hm⟩:=Ff hI
   exact(Tryz.strings_Contains ⟨x.toArray⟩ ⟨t.toArray⟩ m w (wT x hc.1) hm).mono fun e w' h=>⟨h.1,.inl h.2⟩
  ·cases h
 ·cases h
theorem Ay{args:List V}{S:List Ob}{o:Out}(h:ji args S=some o):bQ Tryz.prog 123 args S o:=by
 unfold ji at h
 split at h
 ·rename_i x t
  split at h
  ·rename_i hc
   injection h with h;subst h
   refine fh (v := .int .i64 (Lib.index x t)) Tryz.func123 (by kernel_rfl) (fun F=>by simp only[RD];rw[find_index]) fun w G vs hI hr=>?_
   obtain⟨v,u,rfl,h1,h2⟩:=lR hr
   simp only[RV,RD]at h1 h2
   subst h1;subst h2
   obtain⟨m,hm⟩:=Ff hI
   exact(Tryz.strings_Index ⟨x.toArray⟩ ⟨t.toArray⟩ m w (wT x hc.1) hm).mono fun e w' h=>⟨h.1,.inl h.2⟩
  ·cases h
 ·cases h
theorem sk{args:List V}{S:List Ob}{o:Out}(h:eh args S=some o):bQ Tryz.prog 85 args S o:=by
 unfold eh at h
 split at h
 ·rename_i x c
  split at h
  ·rename_i hc
   injection h with h;subst h
   refine fh (v := .int .i64 (Lib.indexByte x (UInt8.ofNat c.toNat))) Tryz.func85 (by kernel_rfl) (fun F=>by simp only[RD];rw[uA]) fun w G vs hI hr=>?_
   obtain⟨v,u,rfl,h1,h2⟩:=lR hr
   simp only[RV,RD]at h1 h2
   subst h1;subst h2
   exact(Tryz.strings_IndexByte ⟨x.toArray⟩ c w).mono fun e w' h=>⟨h.1,.inl h.2⟩
  ·cases h
 ·cases h
theorem zt{args:List V}{S:List Ob}{o:Out}(h:jQ args S=some o):bQ Tryz.prog 138 args S o:=by
 unfold jQ at h
 split at h
 ·rename_i x t
  split at h
  ·rename_i hc
   injection h with h;subst h
   refine fh (v := .bool (Lib.hasSuffix x t)) Tryz.func138 (by kernel_rfl) (fun F=>by simp only[RD];rfl) fun w G vs hI hr=>?_
   obtain⟨v,u,rfl,h1,h2⟩:=lR hr
   simp only[RV,RD]at h1 h2
   subst h1;subst h2
   have:=wT x hc.1
   exact(Tryz.strings_HasSuffix ⟨x.toArray⟩ ⟨t.toArray⟩ w (by omega)).mono fun e w' h=>⟨h.1,.inl h.2⟩
  ·cases h
 ·cases h
theorem LC:kZ Tryz.prog gq:=by
 intro k g hg;simp[gq]at hg
theorem E1(s:List UInt8)(hne:s≠[])(hl:s.length<=16)(hd:∀c∈s,mB c=true)(w:World)(hT:k8 w):
  Calls Tryz.prog 207 #[.string ⟨s.toArray⟩,.int .i64 16,.int .i64 64] w fun e w'=>e = .returned (.tuple #[.int .u64 ((fN s:Nat):Int),.nilIface])/\Below w.heap.size w w':=by
 have hg:=fH mixed LC eS (iK (LP s hne hl hd)) w (ig w) #[.string ⟨s.toArray⟩,.int .i64 16,.int .i64 64] (zp w hT)
  (by simp only[cK];exact⟨_,_,rfl,rfl,_,_,rfl,rfl,_,_,rfl,rfl,rfl⟩) (fun b q=>by simp[ig])
 refine Calls.mono (hg.calls Tryz.func207 (by kernel_rfl) (eS 207 _ Tryz.func207)) ?_
 rintro e w' ⟨y,rfl,G',h1,h2,h3⟩
 refine⟨?_,h3.os,h3.tape,h3.output,h3.size,fun b hb=>(h3.keep b hb (.inl (by simp[ig]))).2.1⟩
 simp only[RV,cK,RD]at h1
 obtain⟨vs,rfl,v1,r1,e1,rfl,v2,r2,e2,rfl,rfl⟩:=h1
 subst e2
 refine congrArg (fun x=>Ending.returned (Value.tuple x)) (Array.ext' e1)
theorem Tryz.strconv_ParseUint_16(s:List UInt8)(hne:s≠[])(hl:s.length<=16)(hd:∀c∈s,mB c=true)(w:World)(hT:k8 w):
  Calls Tryz.prog 182 #[.string ⟨s.toArray⟩,.int .i64 16,.int .i64 64] w fun e w'=>e = .returned (.tuple #[.int .u64 ((fN s:Nat):Int),.nilIface])/\Below w.heap.size w w':=by
 go_enter Go.Proofs.Tryz.func182,Go.Proofs.Tryz.ntmps182
 go_wp2_with (go_at_call 207;refine(E1 s hne hl hd _ hT).mono ?_;rintro e w' ⟨rfl,hw⟩)
 go_ret2
 exact⟨rfl,hw⟩
theorem tK{args:List V}{S:List Ob}{o:Out}(h:jj args S=some o):bQ Tryz.prog 182 args S o:=by
 unfold jj at h
 split at h
 ·rename_i x b z
  split at h
  ·rename_i hc
   injection h with h;subst h
   obtain⟨rfl,rfl,hne,hl,hd⟩:=hc
   refine ye (v := .tuple #[.int .u64 ((fN x:Nat):Int),.nilIface]) Tryz.func182 (by kernel_rfl) (fun G=>?_) fun w G vs hI hr=>?_
   ·simp only[RV,cK,RD]
    exact⟨_,rfl,_,_,rfl,rfl,_,_,rfl,rfl,rfl⟩
   ·obtain⟨v,hv,h1⟩:=cK.get hr (i:=0) rfl
    obtain⟨u,hu,h2⟩:=cK.get hr (i:=1) rfl
    obtain⟨y,hy,h3⟩:=cK.get hr (i:=2) rfl
    have hlen:=cK.length hr
    simp only[RV,RD]at h1 h2 h3
    subst h1;subst h2;subst h3
    have e:vs=#[.string ⟨x.toArray⟩,.int .i64 16,.int .i64 64]:=by
     apply Array.ext'
     match hvs:vs.toList,hlen,hv,hu,hy with
     | [a,b,c],_,hv,hu,hy=>simp at hv hu hy;subst hv;subst hu;subst hy;rfl
    rw[e]
    exact Dec.Tryz.strconv_ParseUint_16 x hne hl (fun c h=>List.all_eq_true.1 hd c h) w (Ia hI)
  ·cases h
 ·cases h
theorem C4{args:List V}{S:List Ob}{o:Out}(h:wq args S=some o):bQ Tryz.prog 118 args S o:=by
 unfold wq at h
 split at h
 ·rename_i n
  split at h
  ·rename_i hc
   injection h with h;subst h
   refine fh (v := .string ⟨(Lib.itoa n).toArray⟩) Tryz.func118 (by kernel_rfl) (fun F=>by simp only[RD];rw[Ho]) fun w G vs hI hr=>?_
   obtain⟨v,rfl,h1⟩:=Gx hr
   simp only[RV,RD]at h1
   subst h1
   exact(Tryz.strconv_Itoa n (by omega) (by omega) w (Ge hI)).mono fun e w' h=>⟨h.1,.inr h.2⟩
  ·cases h
 ·cases h
theorem we{args:List V}{S:List Ob}{o:Out}(h:ni args S=some o):bQ Tryz.prog 167 args S o:=by
 unfold ni at h
 split at h
 ·rename_i n b
  split at h
  ·rename_i hc
   injection h with h;subst h
   obtain⟨rfl,hc1,hc2⟩:=hc
   refine fh (v := .string ⟨(Lib.decDigits n.toNat).toArray⟩) Tryz.func167 (by kernel_rfl) (fun F=>by simp only[RD];rw[decDigits_eq]) fun w G vs hI hr=>?_
   obtain⟨v,u,rfl,h1,h2⟩:=lR hr
   simp only[RV,RD]at h1 h2
   subst h1;subst h2
   have e:n=((n.toNat:Nat):Int):=by omega
   have:=Tryz.strconv_FormatUint_10 n.toNat (by omega) w (Ge hI)
   rw[<-e]at this
   exact this.mono fun e w' h=>⟨h.1,.inr h.2⟩
  ·cases h
 ·cases h
theorem AH{args:List V}{S:List Ob}{o:Out}(h:lD args S=some o):bQ Tryz.prog 163 args S o:=by
 unfold lD at h
 split at h
 ·rename_i n
  split at h
  ·rename_i hc
   injection h with h;subst h
   refine fh (v := .int .i64 (Lib.bitLen n.toNat)) Tryz.func163 (by kernel_rfl) (fun F=>by simp only[RD];rw[CC _ (by omega)]) fun w G vs hI hr=>?_
   obtain⟨v,rfl,h1⟩:=Gx hr
   simp only[RV,RD]at h1
   subst h1
   exact(Tryz.bits_Len32 n w (by omega) (by omega)).mono fun e w' h=>⟨h.1,.inl h.2⟩
  ·cases h
 ·cases h
theorem p6{xs:List D}{a:List Int}(h:iR .u32 xs=some a):xs=ints .u32 a:=by
 induction xs generalizing a with
 |nil=>simp[iR]at h;subst h;rfl
 |cons x xs ih=>
  cases x<;>simp only[iR]at h<;>try (cases h)
  rename_i j n
  split at h
  ·rename_i e;subst e
   obtain⟨l,hl,rfl⟩:=Option.map_eq_some_iff.1 h
   rw[ih hl];rfl
  ·cases h
theorem nM{xs:List V}{a:List Int}(h:fI xs=some a):xs=cellsOf a:=by
 induction xs generalizing a with
 |nil=>simp[fI]at h;subst h;rfl
 |cons x xs ih=>
  unfold fI at h
  split at h
  ·rename_i e;cases e
  ·rename_i e;injection e with e1 e2;subst e1;subst e2
   obtain⟨l,hl,rfl⟩:=Option.map_eq_some_iff.1 h
   rw[ih hl];rfl
  ·cases h
theorem B2{a:List Int}(h:Iv a=true):cP a/\a.length<=100000:=by
 simp only[Iv,Bool.and_eq_true,decide_eq_true_eq,List.all_eq_true]at h
 exact⟨fun z hz=>by have:=h.1 z hz;exact this,h.2⟩
theorem Kr:kZ Tryz.prog ir:=by
 intro k g hg;simp[ir]at hg
theorem LB:kZ Tryz.prog tL:=by
 intro k g hg;simp[tL]at hg
theorem CM{args:List V}{S:List Ob}{o:Out}(h:kc args S=some o):bQ Tryz.prog 162 args S o:=by
 unfold kc at h
 split at h
 ·rename_i b xs
  split at h
  ·rename_i a ha
   split at h
   ·rename_i hok
    injection h with h;subst h
    obtain⟨hu,hl⟩:=B2 hok
    rw[p6 ha]
    have:=Ey b a hu (by omega)
    exact fH mixed LB eS (iK (by rw[this];simp[Ad,cellsOf,ints]))
   ·cases h
  ·cases h
 ·rename_i n cs
  split at h
  ·rename_i a ha
   split at h
   ·rename_i hok
    injection h with h;subst h
    obtain⟨rfl,hok⟩:=hok
    obtain⟨hu,hl⟩:=B2 hok
    rw[nM ha]
    exact fH mixed Kr eS (iK (xB a hu (by omega)))
   ·cases h
  ·cases h
 ·cases h
theorem CJ{args:List V}{S:List Ob}{o:Out}(h:oc args S=some o):bQ Tryz.prog 164 args S o:=by
 unfold oc at h
 split at h
 ·rename_i n m ds cs
  split at h
  ·rename_i a b ha hb
   split at h
   ·rename_i hok
    injection h with h;subst h
    obtain⟨rfl,rfl,hok1,hok2⟩:=hok
    obtain⟨hu1,hl1⟩:=B2 hok1
    obtain⟨hu2,hl2⟩:=B2 hok2
    rw[nM ha,nM hb]
    exact fH mixed Kr eS (iK (Ew a b hu1 hu2 hl1 hl2))
   ·cases h
  ·cases h
 ·cases h
theorem Hh:kZ Tryz.prog iY:=by
 intro k g hg args S o ho
 simp only[iY,Ks]at hg
 split at hg
 ·injection hg with hg;subst hg;exact CM ho
 ·injection hg with hg;subst hg;exact CJ ho
 ·cases hg
theorem Gb{args:List V}{S:List Ob}{o:Out}(h:s5 args S=some o):bQ Tryz.prog 218 args S o:=by
 unfold s5 at h
 split at h
 ·rename_i b xs c ys
  split at h
  ·rename_i a e ha he
   split at h
   ·rename_i hok
    injection h with h;subst h
    obtain⟨h1,h2,h3,h4⟩:=hok
    have u1:cP a:=fun z hz=>by have:=List.all_eq_true.1 h1 z hz;simpa using this
    have u2:cP e:=fun z hz=>by have:=List.all_eq_true.1 h2 z hz;simpa using this
    rw[p6 ha,p6 he]
    exact fH mixed Hh eS (iK (H8 b c a e u1 u2 h3 h4))
   ·cases h
  ·cases h
 ·cases h
theorem BM:kZ Tryz.prog aE:=by
 intro k g hg args S o ho
 simp only[aE,ext]at hg
 split at hg
 ·injection hg with hg;subst hg;exact te ho
 ·injection hg with hg;subst hg;exact tN ho
 ·injection hg with hg;subst hg;exact C4 ho
 ·injection hg with hg;subst hg;exact we ho
 ·injection hg with hg;subst hg;exact AH ho
 ·injection hg with hg;subst hg;exact Gb ho
 ·injection hg with hg;subst hg;exact tB ho
 ·injection hg with hg;subst hg;exact Ay ho
 ·injection hg with hg;subst hg;exact sk ho
 ·injection hg with hg;subst hg;exact zt ho
 ·injection hg with hg;subst hg;exact tK ho
 ·cases hg
end Go.Dn.Dec
namespace Go.Dn.Dec
open Go.Proofs Go.Proofs.YtbjllhjbhdjfjaaGreatDoor Go.RowKit
set_option maxRecDepth 100000
def yk : List (String × DataW Unit) := [("math/bits.deBruijn32tab", Rows.laid_math_bits_deBruijn32tab), ("math/bits.deBruijn64tab", Rows.laid_math_bits_deBruijn64tab), ("internal/strconv.uint64pow10", Rows.laid_internal_strconv_uint64pow10), ("unicode/utf8.acceptRanges", Rows.laid_unicode_utf8_acceptRanges), ("strconv.ErrRange", Rows.laid_strconv_ErrRange), ("strconv.ErrSyntax", Rows.laid_strconv_ErrSyntax), ("unicode/utf8.first", Rows.laid_unicode_utf8_first)]
theorem FI:(Rows.laid_internal_strconv_uint64pow10:DataW Unit)=Lib.tabData .u64 Lib.pow10Tab:=by kernel_rfl
theorem Jo{W:World}(h:W.ShapedOpen Tryz.prog):∃m,W.cell? ⟨1,0,none⟩=some (.int .i64 m):=
 cell_of_shapedOpen_int (g:=1) (t:=3) (zero:=#[.int .i64 0]) h (by decide) (by kernel_rfl) rfl (by kernel_rfl) (by kernel_rfl) Tryz.underlying3
theorem DX {W : World} {r : List (String × DataW Unit)} (hs : W.ShapedOpen Tryz.prog) (h3 : laidMet Tryz.prog (("internal/strconv.uint64pow10", Rows.laid_internal_strconv_uint64pow10) :: r) W) : k8 W := by
 rw[FI]at h3
 have ht : Lib.TabIs Tryz.prog W "internal/strconv.uint64pow10" .u64 Lib.pow10Tab :=
  Lib.tabIs_of_head (g:=0) (t:=214) (e:=49) (n:=20) (by kernel_rfl) (by kernel_rfl) Tryz.underlying214 Tryz.underlying49 (by kernel_rfl) (by kernel_rfl) h3
 intro b p hb
 unfold tc at hb
 split at hb
 ·rename_i e;subst e
  injection hb with hb;subst hb
  have hg : Tryz.prog.globalNamed "internal/strconv.uint64pow10" = some 0 := by kernel_rfl
  unfold Lib.TabIs World.var? at ht
  rw[hg]at ht
  simp only[Option.bind_some]at ht
  split at ht
  ·rename_i cs x y hc
   injection ht with ht;subst ht
   exact⟨_,x,y,hc,rfl⟩
  ·cases ht
 ·split at hb
  ·rename_i e;subst e
   injection hb with hb;subst hb
   obtain⟨cs,hh,hsz,_⟩:=hs.1 1 #[.int .i64 0] 3 (by decide) (by kernel_rfl)
   obtain⟨m,hm⟩:=Jo hs
   have hsz1:cs.size=1:=hsz
   have h1:0<cs.size:=by omega
   have hcell:W.cell? ⟨1,0,none⟩=some cs[0]:=by simp[World.cell?,hh,h1]
   rw[hcell]at hm
   refine⟨cs,3,_,hh,m,?_⟩
   apply Array.ext
   ·exact hsz1
   ·intro i hi1 hi2
    have:i=0:=by omega
    subst this
    exact Option.some.inj hm
  ·cases hb
theorem mq{H:Type}{enc:TypeId×Value->H}{C:Checked}{os:Os}{f:FuncId}{fn:Func}{s:ChangeSpec}{conds:List PathCond}{apart fresh handsOn again:Bool}{X:World->Array Value->Prop}
  (hX:∀(w w':World) (args:Array Value),w.heap=w'.heap->X w args->X w' args)
  (own:ownKnob C.prog.godebug=none) (started:os.Started) (noInit:C.prog.inits.idxOf? f=none) (hfn:C.prog.funcs[f]?=some fn)
  (witness:∃(w:World) (tape:Tape) (i:Input),w.os=os/\(w.forCall tape i).Shaped C.prog/\i.vars=[]/\Input.okWide C.prog (w.forCall tape i) .any w.heap.size f i/\
   ((s.pre enc C.prog fn conds apart (w.forCall tape i).memory i.args/\X (w.forCall tape i).memory i.args)/\sizedMet enc C.prog fn (OpenSpec.ofChange s) apart (w.forCall tape i).memory i.args)/\Assume.holds {} C.prog (lone (Frame.enter C.prog f i.args .normal) [] (w.forCall tape i)))
  (walk:∀(W:World) (base:Nat) (args:Array Value) (ds gs:List (DataW H)) (before:List MemPlace),
   (∀(j:Nat) t v,fn.params[j]?=some t->args[j]?=some v->Value.okWide C.prog W .any base t v)->
   DataW.Whole enc C.prog fn.params.toList s.vars apart W args.toList ds gs before->X W args->W.ShapedOpen C.prog->
   Calls C.prog f args W fun e W'=>∃v,e = .returned v/\s.post enc C.prog fn apart fresh handsOn again W args v W'):
  ReturnsInHanded {} C os f .any (fun w args=>(s.pre enc C.prog fn conds apart w args/\X w args)/\sizedMet enc C.prog fn (OpenSpec.ofChange s) apart w args) (s.post enc C.prog fn apart fresh handsOn again):=by
 refine returnsInHanded_of_calls own started noInit witness fun w tape i _ hsh _ hok hpre _=>?_
 obtain⟨⟨⟨ds,gs,before,hw,_⟩,hx⟩,_⟩:=hpre
 obtain⟨_,_,_,fn',hfn',_,_,_,_,hval⟩:=hok
 rw[hfn]at hfn'
 cases hfn'
 refine(walk (w.forCall tape i) w.heap.size i.args ds gs before hval (DataW.Whole.of_heap (w':=w.forCall tape i) (by rfl) hw) (hX _ (w.forCall tape i) _ (by rfl) hx) hsh).mono fun e W' h=>?_
 obtain⟨v,rfl,hp⟩:=h
 exact ChangeSpec.post_blind hp
theorem Gf{W:World}(hs:W.ShapedOpen Tryz.prog)(h:laidMetH Tryz.prog yk W):k8 W:=by
 rw[MakeChecks.laidMetH_plain _ _ _ (by kernel_rfl)]at h
 exact DX hs h.tail.tail
end Go.Dn.Dec
