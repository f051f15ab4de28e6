/- Numbers as rows of words, the least ahead. -/
import Derived.Test.YtbjllhjbhdjfjaaGreatDoorP4
import Derived.Test.YtbjllhjbhdjfjaaGreatDoorProg
import Derived.KernelRfl
import Derived.Shelf.Strings.Trim
import Derived.Shelf.Small.Bits
import Derived.Shelf.Small.Strs
import Derived.Shelf.Strconv.Itoa0
import Derived.Shelf.Strconv.Itoa1
import Derived.Shelf.LaysM
import Derived.Shelf.Strconv.Itoa2
import Derived.Shelf.Strconv.Itoa3
import Derived.Shelf.Strings.Search1
import Derived.Shelf.Strings.Search2
import Derived.Shelf.Strings.Search3
import Derived.Shelf.Strings.Prefix
import Derived.Shelf.Unicode.DecodeAny
import Derived.WalkKit
import Derived.WalkSpells
import Derived.WalkLawsBesides
import Derived.Lib.AppendIntMem
import Derived.Shelf.Strings.SlTrimAscii
import Derived.Test.YtbjllhjbhdjfjaaGreatDoorRows
import Derived.Lib.LaidTab
import Derived.Stop.LaidErr
import Derived.Shelf.Vars
import Derived.Handed
import Derived.ProofKit
import Derived.OpenShut
import Derived.LaidMore
import Derived.Lay
set_option linter.unusedVariables false
set_option linter.unusedSimpArgs false
set_option linter.unusedSectionVars false
namespace Go.Dn.Dec
open Go.IntKind (i64 u64 u8 u16 i32 u32)
open Go.Proofs.Tryz (prog)
abbrev EQ(p:Pol)(t:Task)(r:Tr):Prop:=rk prog p t=aD (rk prog p) r
theorem aF{p:Pol}{t:Task}{r:Tr}(h:oN prog p t=r:=by kernel_rfl):EQ p t r:=QZ h
def W:Nat:=4294967296
theorem iJ:0<W:=by decide
def aW:List Int->Nat
 | []=>0
 |z::zs=>z.toNat+W*aW zs
def aT(n:Nat):List Int:=
 if n=0 then [] else(n%W:Nat)::aT (n / W)
termination_by n
decreasing_by exact Nat.div_lt_self (by omega) (by decide)
theorem bZ:aT 0=[]:=by rw[aT];simp
theorem fL{n:Nat}(h:n≠0):aT n=((n%W:Nat):Int)::aT (n / W):=by rw[aT,aaN h]
def ep(a:List Int):Prop:=∀z∈a,0<=z/\z<4294967296
theorem ep.cons{z:Int}{a:List Int}:ep (z::a)↔(0<=z/\z<4294967296)/\ep a:=by simp[ep]
theorem ep.nil:ep []:=by simp[ep]
theorem ep.take{a:List Int}(h:ep a)(n:Nat):ep (a.take n):=λ z hz=>h z (List.mem_of_mem_take hz)
theorem ep.append{a b:List Int}(h:ep a)(k:ep b):ep (a++b):=λ z hz=>(List.mem_append.1 hz).elim (h z) (k z)
theorem cW(n:Nat):ep (aT n):=by
 induction n using Nat.strongRecOn with
 |ind n ih=>
  by_cases h:n=0
  ·subst h;rw[bZ];exact ep.nil
  ·rw[fL h];refine ep.cons.2 ⟨?_,ih _ (Nat.div_lt_self (by omega) (by decide))⟩;have:=abz n iJ;unfold W at *;omega
theorem cM(n:Nat):aW (aT n)=n:=by
 induction n using Nat.strongRecOn with
 |ind n ih=>
  by_cases h:n=0
  ·subst h;rw[bZ];rfl
  ·rw[fL h,aW,ih _ (Nat.div_lt_self (by omega) (by decide))]
   have:=Nat.mod_add_div n W;simp only[abe];omega
theorem eF(a b:List Int):aW (a++b)=aW a+W^a.length*aW b:=by
 induction a with
 |nil=>simp[aW]
 |cons z a ih=>
  rw[List.cons_append,aW,aW,ih,aaT,abx,abA,abm,Nat.mul_left_comm W];rw[aby]
theorem qe{a:List Int}(h:ep a):aW a<W^a.length:=by
 induction a with
 |nil=>simp[aW]
 |cons z a ih=>
  obtain⟨hz,ha⟩:=ep.cons.1 h;have:=ih ha;rw[aW,aaT,abx];have h1:z.toNat<W:=by unfold W;omega
  have:W*aW a+W<=W^a.length*W:=by rw[abD W,<-Nat.succ_mul];exact abH _ this
  omega
theorem M1{a:List Int}(h:ep a)(hl:∀z,a.getLast?=some z->z≠0):aT (aW a)=a:=by
 induction a with
 |nil=>exact bZ
 |cons z a ih=>
  obtain⟨hz,ha⟩:=ep.cons.1 h;have hzW:z.toNat<W:=by unfold W;omega
  have ih':aT (aW a)=a:=ih ha λ y hy=>hl y (by rw[List.getLast?_cons];simp[hy]);have hne:aW (z::a)≠0:=by
   intro h0;rw[aW]at h0;have hz0:z=0:=by omega
   have ha0:aW a=0:=by
    rcases Nat.eq_zero_or_pos (aW a)with h|h
    ·exact h
    ·have:=Nat.mul_pos iJ h;omega
   rw[ha0,bZ]at ih';subst ih';exact hl z (by simp) hz0
  rw[fL hne,aW,Nat.add_mul_mod_self_left,abF hzW,Nat.add_mul_div_left _ _ iJ,Nat.div_eq_of_lt hzW,abv,ih'];congr 1;omega
def nl(n:Nat):D := .l (decide (n=0)) (ints .u32 (aT n))
theorem fZ(n:Nat):aT n=[]↔n=0:=by
 constructor
 ·intro h;rw[<-cM n,h];rfl
 ·intro h;subst h;exact bZ
theorem gg(a:List Int)(n:Nat)(h:a[n]?=some 0):aW (a.take (n+1))=aW (a.take n):=by rw[List.take_add_one,h,eF];simp[aW]
def aah:List (Nat×List (Nat×List Nat)):=
 [(50,[(31,[0,3]),(639,[3,4,5,6]),(2047,[3,6,7]),(8191,[3,6,7,8])]),
 (112,[(15,[4,5])]),
 (161,[(351,[1,5,6,38,39,40])]),
 (162,[(19,[0,3]),(195,[0,3,15])]),
 (164,[(87,[0,1,5])]),
 (165,[(43,[1,5,18,19,20]),(44235,[1,5,6,7,8,18,19,20,25,26,27])]),
 (166,[(13,[0,9]),(39,[0,3])]),
 (168,[(43,[0,3,7,8])]),
 (169,[(55,[5,31])]),
 (196,[(87,[1,5,6,13,14,15])]),
 (198,[(175,[0,1,4,5,7]),(14639,[0,1,4,5,7])]),
 (199,[(7,[0,1]),(175,[1,5,6,20,21,22]),(62255,[1,5,6,20,21,22])]),
 (218,[(175,[0,1,6,19,20]),(62255,[0,1,7,8,19,20]),(521007,[0,1,6,7,8,9,19,20])]),
 (150,[(27,[0,4,28]),(107,[0,4]),(159,[0,4,5,6,7]),(1567,[0,4,5,6,7,55]),(3359,[0,4,5,6,7]),(447,[0,4,5,7,79]),(45055,[4,5,7,8,11,12]),(131071,[4,11,13])]),
 (48,[(15,[0,3]),(447,[3,4,5,33]),(511,[3,4,5]),(2047,[3,6,7]),(10239,[3,6,7,8]),(32767,[3,6,7,8]),(458751,[3,8,10,104]),(1048575,[3,8,14]),(10485759,[3,8,15,16]),(102760447,[3,8,15,16,130])]),
 (188,[(27,[0,18]),(223,[0,5,33]),(2815,[0,5,6,7]),(201471,[0,5,6,7,57])]),
 (109,[(87,[0,1,5,6,7]),(791,[0,1,5,6,7,21])]),
 (105,[(43,[0,1,5,6]),(10827,[0,1,5,6,7,8])]),
 (106,[(87,[0,3,4])]),
 (189,[(23,[0,1,6]),(7111,[6,9,59])]),
 (102,[(43,[0,1,5,6]),(1611,[0,1,5,6,31])]),
 (103,[(39,[3,4]),(391,[3,4,18])]),
 (107,[(175,[0,1,7,8,9]),(1839,[0,1,7,8,9])]),
 (108,[(21,[0,1,5])]),
 (100,[(11,[0,3])]),
 (152,[(19,[0,3]),(195,[0,3,15])]),
 (215,[(7,[0,1])]),
 (154,[(175,[0,1,6,7,8])]),
 (20,[(47,[5,6])]),
 (45,[(2,[0]),(24,[0,20]),(212,[0,2,30]),(980,[0,52]),(2516,[0]),(25044,[0,87]),(38868,[0,3]),(399316,[0,3,125])]),
 (46,[(127,[0,2,3,4,5]),(3903,[0,2,3,4,5,72]),(16191,[0,2,3,4,5,83]),(57151,[0,2,3,115]),(65343,[0,2,3,4,118]),(622399,[0,2,3,4,6]),(6389567,[0,2,3,4,6,152]),(1802047,[0,2,3,6,170]),(393023,[0,2,3,4,7])]),
 (97,[(19,[0,2,3]),(195,[0,2,3,55]),(351,[0,2,3,4,5]),(12895,[0,2,3,4,5,103])]),
 (99,[(27,[0,2,3,38]),(55,[0,2,3,62]),(447,[0,2,3,4,97]),(895,[0,2,3,4,140]),(3455,[0,2,3,4,5]),(7551,[0,2,3,4,5,186]),(4095,[0,2,6,7])]),
 (145,[(121,[0,9]),(505,[0,20])]),
 (146,[(159,[0,2,3,4,5]),(1567,[0,2,3,4,5,46]),(511,[0,2,3,5,6])]),
 (147,[(19,[0,3]),(195,[0,3,29])]),
 (149,[(27,[0,4,16]),(351,[0,4,5,6]),(447,[4,5,47])]),
 (151,[(61,[0,4,6,47])])]
def cut(k:Nat)(p:List Bool):Option (List Nat):=(aah.lookup k).bind λ l=>l.lookup (p.foldl (λ n b=>2*n+b.toNat) 1)
def aac:List (Nat×Nat×Nat×Nat):=[(161,8,8,0),(196,1,3,0),(199,3,3,0),(162,4,3,0),(165,1,6,1),(198,4,2,1),(152,4,4,0),(105,1,6,1),(102,1,7,1),(107,3,3,1)]
def app(k r i:Nat):Nat:=((aac.find? λ x=>x.1==k&&x.2.1==r&&x.2.2.1==i).map (·.2.2.2)).getD 2
def lU(k:IntKind):List D->Option (List Int)
 | []=>some []
 | .i j n::xs=>if j=k then(lU k xs).map (n :: ·)else none
 |_=>none
def G8:Nat->Nat->aE
 |0,n=>[UInt8.ofNat (48+n)]
 |k+1,n=>if n<10 then [UInt8.ofNat (48+n)]else G8 k (n / 10)++[UInt8.ofNat (48+n%10)]
def cB(n:Nat):aE:=G8 n n
theorem Jm:∀(k j n:Nat),n<=k->n<=j->G8 k n=G8 j n
 |0,0,_,_,_=>rfl
 |0,j+1,n,h,_=>by
  have:n=0:=by omega
  subst this;rfl
 |k+1,0,n,_,h=>by
  have:n=0:=by omega
  subst this;rfl
 |k+1,j+1,n,h1,h2=>by
  rw[G8,G8];split
  ·rfl
  ·rw[Jm k j (n / 10) (by omega) (by omega)]
theorem kk(n:Nat):cB n=if n<10 then [UInt8.ofNat (48+n)]else cB (n / 10)++[UInt8.ofNat (48+n%10)]:=by
 unfold cB
 cases n with
 |zero=>rfl
 |succ k=>
  rw[G8];split
  ·rfl
  ·rw[Jm k ((k+1) / 10) ((k+1) / 10) (by omega) (by omega)]
def cU(n:Int):aE:=if n<0 then 45::cB n.natAbs else cB n.toNat
def trimRightB(c:UInt8)(x:aE):aE:=(x.reverse.dropWhile (· == c)).reverse
def bJ(n:Nat):Nat:=if n=0 then 0 else n.log2+1
def jT(args:List V)(S:List Ob):Option Out:=
 match args with
 | [.d (.s x),.d (.s [c])]=>if c.toNat<128/\x.length<=1000000 then some (.d (.s (trimRightB c x)),S)else none
 |_=>none
def sJ(args:List V)(S:List Ob):Option Out:=
 match args with
 | [.d (.i .i64 n)]=>if -1000000<n/\n<1000000 then some (.d (.s (cU n)),S)else none
 |_=>none
def kc(args:List V)(S:List Ob):Option Out:=
 match args with
 | [.d (.i .u64 n),.d (.i .i64 b)]=>if b=10/\0<=n/\n<18446744073709551616 then some (.d (.s (cB n.toNat)),S)else none
 |_=>none
def pI(args:List V)(S:List Ob):Option Out:=
 match args with
 | [.d (.i .u32 n)]=>if 0<=n/\n<4294967296 then some (.d (.i .i64 (bJ n.toNat:Nat)),S)else none
 |_=>none
def NT(x y:Nat):V:=if x<y then .t [.d (.l true []),.d (.b false)]else .t [.d (nl (x-y)),.d (.b true)]
def yJ(args:List V)(S:List Ob):Option Out:=
 match args,S with
 | [.d (.l _ xs),.d (.l _ ys)],[]=>match lU .u32 xs,lU .u32 ys with
  |some a,some b=>if (a.all λ z=>decide (0<=z)&&decide (z<4294967296))=true/\(b.all λ z=>decide (0<=z)&&decide (z<4294967296))=true/\a.length<=100000/\b.length<=100000 then some (NT (aW a) (aW b),[])else none
  |_,_=>none
 |_,_=>none
def jI(t:aE):aE->Option Nat
 | []=>if t.isPrefixOf []=true then some 0 else none
 |c::r=>if t.isPrefixOf (c::r)=true then some 0 else(jI t r).map (· + 1)
def aay(o:Option Nat):Int:=match o with|some n=>(n:Int)|none=>-1
def kA(args:List V)(S:List Ob):Option Out:=
 match args with
 | [.d (.s x),.d (.s t)]=>if x.length<=100000/\t.length<=100000 then some (.d (.b (jI t x).isSome),S)else none
 |_=>none
def fE(c:UInt8):Nat:=if c.toNat<=57 then c.toNat-48 else if 97<=c.toNat then c.toNat-87 else c.toNat-55
def EN(l:aE):Nat:=l.foldl (λ a c=>a*16+fE c) 0
def P2(c:UInt8):Bool:=(decide (48<=c.toNat)&&decide (c.toNat<=57))||(decide (97<=c.toNat)&&decide (c.toNat<=102))||(decide (65<=c.toNat)&&decide (c.toNat<=70))
def ext(k:Nat):Option (List V->List Ob->Option Out):=
 match k with
 |117=>some jT
 |118=>some sJ
 |167=>some kc
 |163=>some pI
 |218=>some yJ
 |57=>some kA
 |_=>none
def mR(k r i:Nat):Fl:=if k=19 then [(4,5)]else []
def aK:Pol:={ cut:=cut,app:=app,mR:=mR,ext:=ext }
def iX:List V->Option (List Int)
 | []=>some []
 | .d (.i .u32 n)::xs=>(iX xs).map (n :: ·)
 |_=>none
def Wd(a:List Int):Bool:=(a.all λ z=>decide (0<=z)&&decide (z<4294967296))&&decide (a.length<=100000)
def G3(a:List Int):List V:=a.map λ z=>V.d (.i .u32 z)
def nN(args:List V)(S:List Ob):Option Out:=
 match args,S with
 | [.d (.l _ xs)],[]=>match lU .u32 xs with
  |some a=>if Wd a=true then some (.m 0 0 (aT (aW a)).length,[aC (G3 (aT (aW a)))])else none
  |none=>none
 | [.m 0 0 n],[.cells cs []]=>match iX cs with
  |some a=>if n=a.length/\Wd a=true then some (.d (nl (aW a)),[aC cs])else none
  |none=>none
 |_,_=>none
def sr(args:List V)(S:List Ob):Option Out:=
 match args,S with
 | [.m 0 0 n,.m 1 0 m],[.cells ds [],.cells cs []]=>match iX cs,iX ds with
  |some a,some b=>if n=a.length/\m=b.length/\Wd a=true/\Wd b=true then some (.d (.i .i64 (if aW a<aW b then -1 else if aW b<aW a then 1 else 0)),[aC ds,aC cs])else none
  |_,_=>none
 |_,_=>none
def qL:Pol:={ cut:=cut,app:=app,mR:=λ _ _ _=>[],ext:=λ _=>none }
def Fq:Pol:={ cut:=cut,app:=λ k _ _=>if k=162 then 1 else 2,mR:=λ _ _ _=>[],ext:=λ _=>none }
def YZ(k:Nat):Option (List V->List Ob->Option Out):=
 match k with
 |162=>some nN
 |164=>some sr
 |_=>none
def oT:Pol:={ cut:=cut,app:=app,mR:=λ _ _ _=>[],ext:=YZ,fresh:=λ k=>k==162 }
open Go.Proofs
theorem a51(n:Nat)(cs:List V):EQ qL (.call 162 [.m 0 0 n] [aC cs]) (aR (Gn (.m 0 0 n) (n:Int) [aC cs])):=aF
theorem aaa(n:Nat)(cs ds:List V):EQ qL (.call 162 [.m 1 0 n] [aC ds,aC cs]) (aR (LW (.m 1 0 n) (n:Int) [aC ds,aC cs])):=aF
theorem a62(n m:Nat)(cs ds:List V):EQ qL (.call 164 [.m 0 0 n,.m 1 0 m] [aC ds,aC cs]) (c1 (.call 162 [.m 0 0 n] [aC cs]) cs.length [] λ a b=>aL a λ c e=>c2 (.call 162 [.m 1 0 m] [aC ds,aC b]) ds.length [] b.length [] λ f g h=>aL f λ j k=>aV (decide ((e.length:Int)<(k.length:Int))) (.ret (vi (-1),[aC g,aC h])) (aV (decide ((e.length:Int)>(k.length:Int))) (.ret (vi 1,[aC g,aC h])) (aR (Lk (i64.wrap ((e.length:Int)-1)) c j e k [aC g,aC h])))):=aF
theorem Dw(m0:Nat)(n1:Int)(l2:List V):EQ qL (Gn (.m 0 0 m0) n1 [aC l2]) (aV (decide (n1>0)) (aO (decide (0<=i64.wrap (n1-1)/\i64.wrap (n1-1)<(m0:Int))) (ob l2[0+(i64.wrap (n1-1)).toNat]? λ a=>bG a λ c=>cf .u32 c λ e=>aR (Ok (.m 0 0 m0) n1 (e==0) [aC l2]))) (aR (Ok (.m 0 0 m0) n1 false [aC l2]))):=aF
theorem wO(m0:Nat)(n1:Int)(l2 l3:List V):EQ qL (LW (.m 1 0 m0) n1 [aC l2,aC l3]) (aV (decide (n1>0)) (aO (decide (0<=i64.wrap (n1-1)/\i64.wrap (n1-1)<(m0:Int))) (ob l2[0+(i64.wrap (n1-1)).toNat]? λ a=>bG a λ c=>cf .u32 c λ e=>aR (Sr (.m 1 0 m0) n1 (e==0) [aC l2,aC l3]))) (aR (Sr (.m 1 0 m0) n1 false [aC l2,aC l3]))):=aF
theorem Dx(b0:Bool)(l1:List D)(b2:Bool)(l3:List D)(n4:Int)(l5 l6:List V):EQ qL (Lk n4 b0 b2 l1 l3 [aC l5,aC l6]) (aV (decide (n4 ≥ 0)) (eC l1 n4 1 0 λ a=>cf .u32 a λ b=>eC l3 n4 1 0 λ c=>cf .u32 c λ e=>aV (decide (b<e)) (.ret (vi (-1),[aC l5,aC l6])) (eC l1 n4 1 0 λ f=>cf .u32 f λ g=>eC l3 n4 1 0 λ h=>cf .u32 h λ j=>aV (decide (g>j)) (.ret (vi 1,[aC l5,aC l6])) (aR (Lk (i64.wrap (n4-1)) b0 b2 l1 l3 [aC l5,aC l6])))) (.ret (vi 0,[aC l5,aC l6]))):=aF
theorem tZ(m0:Nat)(n1:Int)(b2:Bool)(l3:List V):EQ qL (Ok (.m 0 0 m0) n1 b2 [aC l3]) (aV b2 (aR (Gn (.m 0 0 m0) (i64.wrap (n1-1)) [aC l3])) (aO (decide (0<=n1/\n1<=(m0:Int))) (ob (dK [aC l3] 1 (.m 0 0 (n1.toNat-0))) λ a=>aO (bA 1 a) (aO (decide (0+a.length<=4294967296)) (.ret (vl a.isEmpty ([]++a),[aC l3])))))):=aF
theorem oX(m0:Nat)(n1:Int)(b2:Bool)(l3 l4:List V):EQ qL (Sr (.m 1 0 m0) n1 b2 [aC l3,aC l4]) (aV b2 (aR (LW (.m 1 0 m0) (i64.wrap (n1-1)) [aC l3,aC l4])) (aO (decide (0<=n1/\n1<=(m0:Int))) (ob (dK [aC l3,aC l4] 1 (.m 1 0 (n1.toNat-0))) λ a=>aO (bA 1 a) (aO (decide (0+a.length<=4294967296)) (.ret (vl a.isEmpty ([]++a),[aC l3,aC l4])))))):=aF
theorem c51(b:Bool)(xs:List D):EQ Fq (.call 162 [vl b xs] []) (aR (Gm (xs.length:Int) b xs [])):=aF
theorem DE(b0:Bool)(l1:List D)(n2:Int):EQ Fq (Gm n2 b0 l1 []) (aV (decide (n2>0)) (eC l1 (i64.wrap (n2-1)) 1 0 λ a=>cf .u32 a λ c=>aR (Oh n2 b0 (c==0) l1 [])) (aR (Oh n2 b0 false l1 []))):=aF
theorem s81(b:Bool)(xs:List D)(c:Bool)(ys:List D):EQ oT (.call 218 [vl b xs,vl c ys] []) (.call (.call 162 [vl b xs] []) λ a=>WR a λ e f => .call (.call 162 [vl c ys] []) λ g=>WR g λ h j=>c2 (.call 164 [.m 0 0 f,.m 1 0 j] [aC h,aC e]) h.length [] e.length [] λ k n o=>aI k λ p=>aV (decide (p<0)) (.ret (.t [vl true [],vb false],[])) (aR (Sd (.m 0 0 f) (.m 1 0 j) 0 (f:Int) 0 [aC n,aC o]))):=aF
theorem Bw(m0 m1:Nat)(n2 n3 n4:Int)(l5 l6:List V):EQ oT (Sd (.m 0 0 m0) (.m 1 0 m1) n2 n3 n4 [aC l5,aC l6]) (aV (decide (n4<n3)) (aV (decide (n4<(m1:Int))) (aO (decide (0<=n4/\n4<(m1:Int))) (ob l5[0+n4.toNat]? λ a=>bG a λ c=>cf .u32 c λ e=>aR (R7 (.m 0 0 m0) (.m 1 0 m1) n4 (u64.wrap (n2+u64.wrap e)) n3 n4 [aC l5,aC l6]))) (aR (R7 (.m 0 0 m0) (.m 1 0 m1) n4 n2 n3 n4 [aC l5,aC l6]))) (c1 (.call 162 [.m 0 0 m0] [aC l6]) l6.length [] λ f g=>aL f λ h j => .ret (.t [vl h j,vb true],[]))):=aF
theorem FU(m0 m1:Nat)(n2 n3 n4 n5:Int)(l6 l7:List V):EQ oT (R7 (.m 0 0 m0) (.m 1 0 m1) n2 n3 n4 n5 [aC l6,aC l7]) (aO (decide (0<=n2/\n2<(m0:Int))) (ob l7[0+n2.toNat]? λ a=>bG a λ b=>cf .u32 b λ c=>aV (decide (u64.wrap c<n3)) (aR (RG (.m 0 0 m0) (.m 1 0 m1) 1 n2 n3 (u64.wrap (u64.wrap c+4294967296)) n4 n5 [aC l6,aC l7])) (aR (RG (.m 0 0 m0) (.m 1 0 m1) 0 n2 n3 (u64.wrap c) n4 n5 [aC l6,aC l7])))):=aF
theorem C2(m0 m1:Nat)(n2 n3 n4 n5 n6 n7:Int)(l8 l9:List V):EQ oT (RG (.m 0 0 m0) (.m 1 0 m1) n2 n3 n4 n5 n6 n7 [aC l8,aC l9]) (aO (decide (0<=n3/\n3<(m0:Int))) (aO (decide (0+n3.toNat<l9.length)&&true) (aR (Sd (.m 0 0 m0) (.m 1 0 m1) n2 n6 (i64.wrap (n7+1)) [aC l8,aC (l9.set (0+n3.toNat) (.d (.i .u32 (u32.wrap (u64.wrap (n5-n4))))))])))):=aF
theorem f51(b:Bool)(xs:List D):EQ aK (.call 162 [vl b xs] []) (aR (Gm (xs.length:Int) b xs [])):=aF
theorem aaq(n:Nat)(cs:List V):EQ aK (.call 162 [.m 0 0 n] [aC cs]) (aR (Gn (.m 0 0 n) (n:Int) [aC cs])):=aF
theorem f23(n:Int):EQ aK (.call 160 [vu n] []) (cV (.call 162 [vl true [.i .u32 (u32.wrap n),.i .u32 (u32.wrap (n.fdiv 4294967296))]] []) λ a=>aL a λ b c => .ret (vl b c,[])):=aF
theorem f25(n:Int):EQ aK (.call 166 [vi n] []) (aV (decide (n<0)) (aR (Sy n true [])) (aR (Sy n (decide (n>1000)) []))):=aF
theorem f52(b:Bool)(xs:List D)(n:Int):EQ aK (.call 196 [vl b xs,.d (.i .u32 n)] []) (aO (decide (0<=i64.wrap ((xs.length:Int)+1))) (aO (decide (i64.wrap ((xs.length:Int)+1)<=4294967296)) (aR (RP (.d (.i .u32 n)) 0 (xs.length:Int) 0 false b [] xs [])))):=aF
theorem f24(b:Bool)(xs:List D)(c:Bool)(ys:List D):EQ aK (.call 165 [vl b xs,vl c ys] []) (aO (decide (0<=i64.wrap (i64.wrap ((xs.length:Int)+(ys.length:Int))+1))) (aO (decide (i64.wrap (i64.wrap ((xs.length:Int)+(ys.length:Int))+1)=i64.wrap (i64.wrap ((xs.length:Int)+(ys.length:Int))+1))) (aO (decide (i64.wrap (i64.wrap ((xs.length:Int)+(ys.length:Int))+1)<=4294967296)) (aR (Kw (.m 0 0 (i64.wrap (i64.wrap ((xs.length:Int)+(ys.length:Int))+1)).toNat) (xs.length:Int) 0 c b ys xs [aC (List.replicate (i64.wrap (i64.wrap ((xs.length:Int)+(ys.length:Int))+1)).toNat (.d (.i .u32 0)))]))))):=aF
theorem f50(b:Bool)(xs:List D)(c:Bool)(ys:List D):EQ aK (.call 199 [vl b xs,vl c ys] []) (aV (decide ((xs.length:Int)<(ys.length:Int))) (aR (LP c b ys xs [])) (aR (LP b c xs ys []))):=aF
theorem f53(b:Bool)(xs:List D)(n:Int):EQ aK (.call 161 [vl b xs,vi n] []) (cV (.call 162 [vl b xs] []) λ a=>aL a λ c e=>aV (decide (n<i64.wrap (-32*i64.wrap ((e.length:Int)+1)))) (.ret (vl true [],[])) (aV (decide (n<0)) (cV (.call 195 [vl c e,vi (i64.wrap (0-n))] []) λ f=>aL f λ g h => .ret (vl g h,[])) (aV ((e.length:Int)==0) (.ret (vl true [],[])) (aO (decide (0<=i64.wrap (n.tdiv 32))) (aO (decide (i64.wrap (n.tdiv 32)<=i64.wrap (i64.wrap (i64.wrap (n.tdiv 32)+(e.length:Int))+1))) (aO (decide (i64.wrap (i64.wrap (i64.wrap (n.tdiv 32)+(e.length:Int))+1)<=4294967296)) (aR (RL n 0 (e.length:Int) 0 false c (List.replicate (i64.wrap (n.tdiv 32)).toNat (.i .u32 0)) e [])))))))):=aF
theorem f74(b:Bool)(xs:List D)(c:Bool)(ys:List D):EQ aK (.call 198 [vl b xs,vl c ys] []) (cV (.call 162 [vl b xs] []) λ a=>aL a λ e f=>cV (.call 162 [vl c ys] []) λ g=>aL g λ h j=>aV ((j.length:Int)==0) (.ret (.t [vl true [],vl true [],vb false],[])) (aO (decide ((f.length:Int)=(f.length:Int))) (aO (decide ((f.length:Int)<=4294967296)) (cV (.call 113 [vl e f] []) λ k=>aI k λ n=>aR (Wv (.m 0 0 (f.length:Int).toNat) (i64.wrap (n-1)) e h true f j [] [aC (List.replicate (f.length:Int).toNat (.d (.i .u32 0)))]))))):=aF
theorem f34(b:Bool)(xs:List D):EQ aK (.call 113 [vl b xs] []) (cV (.call 162 [vl b xs] []) λ a=>aL a λ c e=>aV ((e.length:Int)==0) (.ret (vi 0,[])) (eC e (i64.wrap ((e.length:Int)-1)) 1 0 λ f=>cf .u32 f λ g=>cV (.call 163 [.d (.i .u32 g)] []) λ h=>aI h λ j => .ret (vi (i64.wrap (i64.wrap (32*i64.wrap ((e.length:Int)-1))+j)),[]))):=aF
theorem f62(b:Bool)(xs:List D)(c:Bool)(ys:List D):EQ aK (.call 164 [vl b xs,vl c ys] []) (cV (.call 162 [vl b xs] []) λ a=>aL a λ e f=>cV (.call 162 [vl c ys] []) λ g=>aL g λ h j=>aV (decide ((f.length:Int)<(j.length:Int))) (.ret (vi (-1),[])) (aV (decide ((f.length:Int)>(j.length:Int))) (.ret (vi 1,[])) (aR (Ll (i64.wrap ((f.length:Int)-1)) e h f j [])))):=aF
theorem f56(b:Bool)(xs:List D):EQ aK (.call 168 [vl b xs] []) (aR (Oc 0 (if 2<(xs.length:Int)then 2 else(xs.length:Int)) 0 b xs [])):=aF
theorem Er(b0:Bool)(l1:List D)(n2:Int):EQ aK (Gm n2 b0 l1 []) (aV (decide (n2>0)) (eC l1 (i64.wrap (n2-1)) 1 0 λ a=>cf .u32 a λ c=>aR (Oh n2 b0 (c==0) l1 [])) (aR (Oh n2 b0 false l1 []))):=aF
theorem xw(m0:Nat)(n1:Int)(l2:List V):EQ aK (Gn (.m 0 0 m0) n1 [aC l2]) (aV (decide (n1>0)) (aO (decide (0<=i64.wrap (n1-1)/\i64.wrap (n1-1)<(m0:Int))) (ob l2[0+(i64.wrap (n1-1)).toNat]? λ a=>bG a λ c=>cf .u32 c λ e=>aR (Ok (.m 0 0 m0) n1 (e==0) [aC l2]))) (aR (Ok (.m 0 0 m0) n1 false [aC l2]))):=aF
theorem PB(n0:Int)(b1:Bool):EQ aK (Sy n0 b1 []) (aV b1 (.ret (vl true [],[])) (cV (.call 160 [vu 1] []) λ a=>aL a λ c e=>aR (LK n0 c e []))):=aF
theorem Es(n0:Int)(b1:Bool)(l2:List D)(n3:Int)(b4:Bool)(l5:List D)(n6 n7:Int):EQ aK (RP (.d (.i .u32 n0)) n3 n6 n7 b1 b4 l2 l5 []) (aV (decide (n7<n6)) (eC l5 n7 1 0 λ a=>cf .u32 a λ b=>aO (bA 1 l2) (aO (b1||true) (aO (decide (l2.length+1<=4294967296)) (aR (RP (.d (.i .u32 n0)) ((u64.wrap (n3+u64.wrap (u64.wrap b*u64.wrap n0))).fdiv 4294967296) n6 (i64.wrap (n7+1)) (b1&&false) b4 (l2++[.i .u32 (u32.wrap (u64.wrap (n3+u64.wrap (u64.wrap b*u64.wrap n0))))]) l5 []))))) (aO (bA 1 l2) (aO (b1||true) (aO (decide (l2.length+1<=4294967296)) (cV (.call 162 [vl (b1&&false) (l2++[.i .u32 (u32.wrap n3)])] []) λ c=>aL c λ e f => .ret (vl e f,[])))))):=aF
theorem Ec(b0:Bool)(l1:List D)(m2:Nat)(b3:Bool)(l4:List D)(n5 n6:Int)(l7:List V):EQ aK (Kw (.m 0 0 m2) n5 n6 b0 b3 l1 l4 [aC l7]) (aV (decide (n6<n5)) (eC l4 n6 1 0 λ a=>cf .u32 a λ b=>aR (X7 (.m 0 0 m2) (.d (.i .u32 b)) n6 0 n5 n6 (l1.length:Int) 0 b0 b3 b0 l1 l4 l1 [aC l7])) (c1 (.call 162 [.m 0 0 m2] [aC l7]) l7.length [] λ c e=>aL c λ f g => .ret (vl f g,[]))):=aF
theorem Uc(b0:Bool)(l1:List D)(b2:Bool)(l3:List D):EQ aK (LP b0 b2 l1 l3 []) (aO (decide (0<=i64.wrap ((l1.length:Int)+1))) (aO (decide (i64.wrap ((l1.length:Int)+1)<=4294967296)) (aR (RM 0 (l1.length:Int) 0 b2 false b0 l3 [] l1 [])))):=aF
theorem Az(n0:Int)(b1:Bool)(l2:List D)(n3:Int)(b4:Bool)(l5:List D)(n6 n7:Int):EQ aK (RL n0 n3 n6 n7 b1 b4 l2 l5 []) (aV (decide (n7<n6)) (eC l5 n7 1 0 λ a=>cf .u32 a λ b=>aO (decide (0<=n0.tmod 32)) (aO (bA 1 l2) (aO (b1||true) (aO (decide (l2.length+1<=4294967296)) (aR (RL n0 ((u64.wrap ((BitVec.ofInt u64.bits n3 ||| BitVec.ofInt u64.bits (u64.wrap (u64.wrap b*2^min (n0.tmod 32).toNat 64))).toNat:Int)).fdiv 4294967296) n6 (i64.wrap (n7+1)) (b1&&false) b4 (l2++[.i .u32 (u32.wrap (u64.wrap ((BitVec.ofInt u64.bits n3 ||| BitVec.ofInt u64.bits (u64.wrap (u64.wrap b*2^min (n0.tmod 32).toNat 64))).toNat:Int)))]) l5 [])))))) (aO (bA 1 l2) (aO (b1||true) (aO (decide (l2.length+1<=4294967296)) (cV (.call 162 [vl (b1&&false) (l2++[.i .u32 (u32.wrap n3)])] []) λ c=>aL c λ e f => .ret (vl e f,[])))))):=aF
theorem AD(b0:Bool)(l1:List D)(b2:Bool)(l3:List D)(m4:Nat)(b5:Bool)(l6:List D)(n7:Int)(l8:List V):EQ aK (Wv (.m 0 0 m4) n7 b0 b2 b5 l1 l3 l6 [aC l8]) (aV (decide (n7 ≥ 0)) (cV (.call 161 [vl b5 l6,vi 1] []) λ a=>aL a λ c e=>eC l1 (i64.wrap (n7.tdiv 32)) 1 0 λ f=>cf .u32 f λ g=>aO (decide (0<=n7.tmod 32)) (aV (u32.wrap ((BitVec.ofInt u32.bits (g.fdiv (2^min (n7.tmod 32).toNat 32)) &&& BitVec.ofInt u32.bits 1).toNat:Int) != 0) (cV (.call 160 [vu 1] []) λ h=>aL h λ j k=>cV (.call 199 [vl c e,vl j k] []) λ n=>aL n λ o p=>aR (N8 (.m 0 0 m4) n7 b0 b2 o l1 l3 p [aC l8])) (aR (N8 (.m 0 0 m4) n7 b0 b2 c l1 l3 e [aC l8])))) (c1 (.call 162 [.m 0 0 m4] [aC l8]) l8.length [] λ q r=>aL q λ s zu=>cV (.call 162 [vl b5 l6] []) λ v=>aL v λ w x => .ret (.t [vl s zu,vl w x,vb true],[]))):=aF
theorem Ev(b0:Bool)(l1:List D)(b2:Bool)(l3:List D)(n4:Int):EQ aK (Ll n4 b0 b2 l1 l3 []) (aV (decide (n4 ≥ 0)) (eC l1 n4 1 0 λ a=>cf .u32 a λ b=>eC l3 n4 1 0 λ c=>cf .u32 c λ e=>aV (decide (b<e)) (.ret (vi (-1),[])) (eC l1 n4 1 0 λ f=>cf .u32 f λ g=>eC l3 n4 1 0 λ h=>cf .u32 h λ j=>aV (decide (g>j)) (.ret (vi 1,[])) (aR (Ll (i64.wrap (n4-1)) b0 b2 l1 l3 [])))) (.ret (vi 0,[]))):=aF
theorem Et(b0:Bool)(l1:List D)(n2 n3 n4:Int):EQ aK (Oc n2 n3 n4 b0 l1 []) (aV (decide (n4<n3)) (eC l1 n4 1 0 λ a=>cf .u32 a λ b=>aO (decide (0<=i64.wrap (32*n4))) (aR (Oc (u64.wrap ((BitVec.ofInt u64.bits n2 ||| BitVec.ofInt u64.bits (u64.wrap (u64.wrap b*2^min (i64.wrap (32*n4)).toNat 64))).toNat:Int)) n3 (i64.wrap (n4+1)) b0 l1 []))) (.ret (vu n2,[]))):=aF
theorem uq(b0:Bool)(l1:List D)(n2:Int)(b3:Bool):EQ aK (Oh n2 b0 b3 l1 []) (aV b3 (aR (Gm (i64.wrap (n2-1)) b0 l1 [])) (aO (decide (0<=n2/\n2<=(l1.length:Int))) (aO (bA 1 l1) (aO (bA 1 (List.take (n2.toNat-0) (List.drop 0 l1))) (aO (decide (0+(List.take (n2.toNat-0) (List.drop 0 l1)).length<=4294967296)) (.ret (vl (List.take (n2.toNat-0) (List.drop 0 l1)).isEmpty ([]++List.take (n2.toNat-0) (List.drop 0 l1)),[]))))))):=aF
theorem pw(m0:Nat)(n1:Int)(b2:Bool)(l3:List V):EQ aK (Ok (.m 0 0 m0) n1 b2 [aC l3]) (aV b2 (aR (Gn (.m 0 0 m0) (i64.wrap (n1-1)) [aC l3])) (aO (decide (0<=n1/\n1<=(m0:Int))) (ob (dK [aC l3] 1 (.m 0 0 (n1.toNat-0))) λ a=>aO (bA 1 a) (aO (decide (0+a.length<=4294967296)) (.ret (vl a.isEmpty ([]++a),[aC l3])))))):=aF
theorem Ed(n0:Int)(b1:Bool)(l2:List D):EQ aK (LK n0 b1 l2 []) (aV (decide (n0>0)) (cV (.call 196 [vl b1 l2,.d (.i .u32 10)] []) λ a=>aL a λ b c=>aR (LK (i64.wrap (n0-1)) b c [])) (.ret (vl b1 l2,[]))):=aF
theorem vh(b0:Bool)(l1:List D)(m2:Nat)(n3 n4 n5:Int)(b6:Bool)(l7:List D)(n8 n9:Int)(b10:Bool)(l11:List D)(n12 n13:Int)(l14:List V):EQ aK (X7 (.m 0 0 m2) (.d (.i .u32 n4)) n3 n5 n8 n9 n12 n13 b0 b6 b10 l1 l7 l11 [aC l14]) (aV (decide (n13<n12)) (eC l11 n13 1 0 λ a=>cf .u32 a λ b=>aO (decide (0<=i64.wrap (n3+n13)/\i64.wrap (n3+n13)<(m2:Int))) (ob l14[0+(i64.wrap (n3+n13)).toNat]? λ c=>bG c λ e=>cf .u32 e λ f=>aO (decide (0<=i64.wrap (n3+n13)/\i64.wrap (n3+n13)<(m2:Int))) (aO (decide (0+(i64.wrap (n3+n13)).toNat<l14.length)&&true) (aR (X7 (.m 0 0 m2) (.d (.i .u32 n4)) n3 ((u64.wrap (n5+u64.wrap (u64.wrap (u64.wrap n4*u64.wrap b)+u64.wrap f))).fdiv 4294967296) n8 n9 n12 (i64.wrap (n13+1)) b0 b6 b10 l1 l7 l11 [aC (l14.set (0+(i64.wrap (n3+n13)).toNat) (.d (.i .u32 (u32.wrap (u64.wrap (n5+u64.wrap (u64.wrap (u64.wrap n4*u64.wrap b)+u64.wrap f)))))))]))))) (aO (decide (0<=i64.wrap (n3+(l1.length:Int))/\i64.wrap (n3+(l1.length:Int))<(m2:Int))) (aO (decide (0+(i64.wrap (n3+(l1.length:Int))).toNat<l14.length)&&true) (aR (Kw (.m 0 0 m2) n8 (i64.wrap (n9+1)) b0 b6 l1 l7 [aC (l14.set (0+(i64.wrap (n3+(l1.length:Int))).toNat) (.d (.i .u32 (u32.wrap n5))))]))))):=aF
theorem Ay(b0:Bool)(l1:List D)(b2:Bool)(l3:List D)(n4:Int)(b5:Bool)(l6:List D)(n7 n8:Int):EQ aK (RM n4 n7 n8 b0 b2 b5 l1 l3 l6 []) (aV (decide (n8<n7)) (eC l6 n8 1 0 λ a=>cf .u32 a λ b=>aV (decide (n8<(l1.length:Int))) (eC l1 n8 1 0 λ c=>cf .u32 c λ e=>aR (RH (u64.wrap (u64.wrap (n4+u64.wrap b)+u64.wrap e)) n7 n8 b0 b2 b5 l1 l3 l6 [])) (aR (RH (u64.wrap (n4+u64.wrap b)) n7 n8 b0 b2 b5 l1 l3 l6 []))) (aO (bA 1 l3) (aO (b2||true) (aO (decide (l3.length+1<=4294967296)) (cV (.call 162 [vl (b2&&false) (l3++[.i .u32 (u32.wrap n4)])] []) λ f=>aL f λ g h => .ret (vl g h,[])))))):=aF
theorem vm(b0:Bool)(l1:List D)(b2:Bool)(l3:List D)(m4:Nat)(b5:Bool)(l6:List D)(n7:Int)(l8:List V):EQ aK (N8 (.m 0 0 m4) n7 b0 b2 b5 l1 l3 l6 [aC l8]) (cV (.call 218 [vl b5 l6,vl b2 l3] []) λ a=>dI a λ c=>aO (c.length==2) (bG (cG c 0) λ e=>gX e λ f g=>bG (cG c 1) λ h=>jz h λ j=>aV j (aO (decide (0<=i64.wrap (n7.tdiv 32)/\i64.wrap (n7.tdiv 32)<(m4:Int))) (ob l8[0+(i64.wrap (n7.tdiv 32)).toNat]? λ k=>bG k λ n=>cf .u32 n λ o=>aO (decide (0<=n7.tmod 32)) (aO (decide (0<=i64.wrap (n7.tdiv 32)/\i64.wrap (n7.tdiv 32)<(m4:Int))) (aO (decide (0+(i64.wrap (n7.tdiv 32)).toNat<l8.length)&&true) (aR (Sc (.m 0 0 m4) (i64.wrap (n7-1)) b0 b2 f l1 l3 g [aC (l8.set (0+(i64.wrap (n7.tdiv 32)).toNat) (.d (.i .u32 (u32.wrap ((BitVec.ofInt u32.bits o ||| BitVec.ofInt u32.bits (u32.wrap (1*2^min (n7.tmod 32).toNat 32))).toNat:Int)))))])))))) (aR (Sc (.m 0 0 m4) (i64.wrap (n7-1)) b0 b2 b5 l1 l3 l6 [aC l8])))):=aF
theorem Ep(b0:Bool)(l1:List D)(b2:Bool)(l3:List D)(n4:Int)(b5:Bool)(l6:List D)(n7 n8:Int):EQ aK (RH n4 n7 n8 b0 b2 b5 l1 l3 l6 []) (aO (bA 1 l3) (aO (b2||true) (aO (decide (l3.length+1<=4294967296)) (aR (RM (n4.fdiv 4294967296) n7 (i64.wrap (n8+1)) b0 (b2&&false) b5 l1 (l3++[.i .u32 (u32.wrap n4)]) l6 []))))):=aF
theorem vo(b0:Bool)(l1:List D)(b2:Bool)(l3:List D)(m4:Nat)(b5:Bool)(l6:List D)(n7:Int)(l8:List V):EQ aK (Sc (.m 0 0 m4) n7 b0 b2 b5 l1 l3 l6 [aC l8]) (aV (decide (n7 ≥ 0)) (cV (.call 161 [vl b5 l6,vi 1] []) λ a=>aL a λ c e=>eC l1 (i64.wrap (n7.tdiv 32)) 1 0 λ f=>cf .u32 f λ g=>aO (decide (0<=n7.tmod 32)) (aV (u32.wrap ((BitVec.ofInt u32.bits (g.fdiv (2^min (n7.tmod 32).toNat 32)) &&& BitVec.ofInt u32.bits 1).toNat:Int) != 0) (cV (.call 160 [vu 1] []) λ h=>aL h λ j k=>cV (.call 199 [vl c e,vl j k] []) λ n=>aL n λ o p=>aR (N8 (.m 0 0 m4) n7 b0 b2 o l1 l3 p [aC l8])) (aR (N8 (.m 0 0 m4) n7 b0 b2 c l1 l3 e [aC l8])))) (c1 (.call 162 [.m 0 0 m4] [aC l8]) l8.length [] λ q r=>aL q λ s zu=>cV (.call 162 [vl b5 l6] []) λ v=>aL v λ w x => .ret (.t [vl s zu,vl w x,vb true],[]))):=aF
def cellsOf(a:List Int):List V:=(ints .u32 a).map V.d
theorem tP:∀l:List D,y5 (l.map V.d)=some l
 | []=>rfl
 |d::l=>by simp[y5,ZH,tP l]
theorem fk(a:List Int):(cellsOf a).length=a.length:=by simp[cellsOf]
theorem dw(a:List Int)(i:Nat):(cellsOf a)[i]?=a[i]?.map λ z=>V.d (.i .u32 z):=by simp[cellsOf];rfl
theorem kj(a:List Int)(n:Nat)(h:n<=a.length):dK [aC (cellsOf a)] 1 (V.m 0 0 n)=some (ints .u32 (a.take n)):=by simp only[dK,view,bV,abp,if_true];rw[aaR (by rw[fk];omega)];simp only[List.drop_zero,cellsOf,<-List.map_take,nz,tP]
theorem iE(k:IntKind)(a:List Int):(ints k a).isEmpty=a.isEmpty:=by cases a<;>rfl
theorem oK{a:List Int}{n:Nat}(h:aT n=a):nl n = .l a.isEmpty (ints .u32 a):=by
 unfold nl;rw[h];congr 1
 cases a with
 |nil=>simp[(fZ n).1 h]
 |cons z a=>
  have:n≠0:=λ e=>by rw[(fZ n).2 e]at h;cases h
  simp[this]
theorem jc{a:List Int}(ha:ep a){n:Nat}(hn:n<a.length)(hz:a[n]≠0):aT (aW (a.take (n+1)))=a.take (n+1):=by refine M1 (ha.take _) λ z hz'=>?_;rw[List.getLast?_eq_getElem?,List.length_take,Nat.min_eq_left (by omega),abP (by omega),Nat.add_sub_cancel,abl hn]at hz';injection hz' with hz';rw[<-hz'];exact hz
theorem DL(b:Bool)(a:List Int)(ha:ep a)(hb:a.length<=1000000):∀n:Nat,n<=a.length->aW (a.take n)=aW a->
  rk prog aK (Gm (n:Int) b (ints .u32 a) [])=some (.d (nl (aW a)),[])
 |0,hn,hv=>by
  rw[Er];have h0:aW a=0:=by rw[<-hv];rfl
  have e:nl (aW a) = .l true []:=by rw[h0];exact oK bZ
  simp[uq,e]
 |n+1,hn,hv=>by
  rw[Er];have hx:n<a.length:=by omega
  have gx:=abl hx;have hp:(0:Int)<(n:Int)+1:=by omega
  have hw:i64.wrap (n:Int)=(n:Int):=bD;have hl:n+1<=4294967296:=by omega
  by_cases h0:a[n]=0
  ·have ih:=DL b a ha hb n (by omega) (by rw[<-hv];exact(gg a n (by rw[gx,h0])).symm)
   simp[hp,hw,gx,h0,uq,ih]
  ·have e:nl (aW a) = .l (a.take (n+1)).isEmpty (ints .u32 (a.take (n+1))):=by rw[<-hv];exact oK (jc ha hx h0)
   have hle:(n:Int)+1<=(a.length:Int):=by omega
   have hp2:(0:Int)<=(n:Int)+1:=by omega
   have ht:((n:Int)+1).toNat=n+1:=by omega
   have hl2:n+1<=a.length:=by omega
   simp[hp,hw,gx,h0,uq,hle,hp2,ht,nz,hl,e,iE,hl2]
theorem su(b:Bool)(a:List Int)(ha:ep a)(hb:a.length<=1000000):rk prog aK (.call 162 [vl b (ints .u32 a)] [])=some (.d (nl (aW a)),[]):=by rw[f51];simp[DL b a ha hb a.length (aa4 _) (by rw[List.take_length])]
theorem Ae(a:List Int)(ha:ep a)(hb:a.length<=1000000):∀n:Nat,n<=a.length->aW (a.take n)=aW a->
  rk prog aK (Gn (V.m 0 0 a.length) (n:Int) [aC (cellsOf a)])=some (.d (nl (aW a)),[aC (cellsOf a)])
 |0,hn,hv=>by
  rw[xw];have h0:aW a=0:=by rw[<-hv];rfl
  have e:nl (aW a) = .l true []:=by rw[h0];exact oK bZ
  have hv0:=kj a 0 (by omega);simp[pw,e,hv0,ints]
 |n+1,hn,hv=>by
  rw[xw];have hx:n<a.length:=by omega
  have gx:=abl hx;have hp:(0:Int)<(n:Int)+1:=by omega
  have hw:i64.wrap (n:Int)=(n:Int):=bD;have hl:n+1<=4294967296:=by omega
  have hni:(n:Int)<(a.length:Int):=by omega
  by_cases h0:a[n]=0
  ·have ih:=Ae a ha hb n (by omega) (by rw[<-hv];exact(gg a n (by rw[gx,h0])).symm)
   simp[hp,hw,hni,dw,gx,h0,pw,ih]
  ·have e:nl (aW a) = .l (a.take (n+1)).isEmpty (ints .u32 (a.take (n+1))):=by rw[<-hv];exact oK (jc ha hx h0)
   have hle:(n:Int)+1<=(a.length:Int):=by omega
   have hp2:(0:Int)<=(n:Int)+1:=by omega
   have ht:((n:Int)+1).toNat=n+1:=by omega
   have hl2:n+1<=a.length:=by omega
   have hv1:=kj a (n+1) hl2;simp[hp,hw,hni,dw,gx,h0,pw,hle,hp2,ht,hv1,hl,e,iE,hl2]
theorem DN(a:List Int)(ha:ep a)(hb:a.length<=1000000):rk prog aK (.call 162 [V.m 0 0 a.length] [aC (cellsOf a)])=some (.d (nl (aW a)),[aC (cellsOf a)]):=by rw[aaq];simp[Ae a ha hb a.length (aa4 _) (by rw[List.take_length])]
theorem dt(n:Int):u32.wrap n=n%4294967296:=by
 have e:((2:Int)^u32.bits)=4294967296:=by decide
 simp[IntKind.wrap,IntKind.signed,e]
theorem aY(n:Int):u64.wrap n=n%18446744073709551616:=by
 have e:((2:Int)^u64.bits)=18446744073709551616:=by decide
 simp[IntKind.wrap,IntKind.signed,e]
theorem nY(n:Nat):((n:Int)).fdiv 4294967296=((n / W:Nat):Int):=by rw[Int.fdiv_eq_ediv_of_nonneg _ (by decide)];unfold W;omega
theorem sR(n:Nat):(n:Int)%4294967296=((n%W:Nat):Int):=by unfold W;omega
theorem eD{n:Nat}(h:n<18446744073709551616):(n:Int)%18446744073709551616=(n:Int):=by omega
theorem oi{n:Nat}(h:n<4294967296):(n:Int)%4294967296=(n:Int):=by omega
theorem of_run(n:Nat)(h:n<18446744073709551616):rk prog aK (.call 160 [vu (n:Int)] [])=some (.d (nl n),[]):=by
 rw[f23];have e:[D.i u32 (u32.wrap n),D.i u32 (u32.wrap ((n:Int).fdiv 4294967296))]=ints .u32 [((n%W:Nat):Int),((n / W:Nat):Int)]:=by rw[dt,dt,nY,sR,oi (by unfold W;omega)];rfl
 have hv:aW [((n%W:Nat):Int),((n / W:Nat):Int)]=n:=by simp only[aW,abe];have:=Nat.mod_add_div n W;omega
 have hu:ep [((n%W:Nat):Int),((n / W:Nat):Int)]:=by
  intro z hz;have h1:=abz n iJ;have h2:n / W<4294967296:=by unfold W;omega
  unfold W at *;simp at hz;rcases hz with rfl|rfl<;>omega
 have hc:=su true _ hu (by simp);rw[hv]at hc;rw[e];generalize ints .u32 [((n%W:Nat):Int),((n / W:Nat):Int)]=L at hc⊢;simp[hc,nl]
theorem lD{a:List Int}{i:Nat}(h:i<a.length):aW (a.drop i)=a[i].toNat+W*aW (a.drop (i+1)):=by rw[List.drop_eq_getElem_cons h,aW]
theorem ep.get{a:List Int}(h:ep a){i:Nat}(hi:i<a.length):∃x:Nat,a[i]=(x:Int)/\x<4294967296:=by have:=h _ (List.getElem_mem hi);exact⟨a[i].toNat,by omega,by omega⟩
theorem ep.snoc{a:List Int}(h:ep a){n:Nat}(hn:n<4294967296):ep (a++[(n:Int)]):=h.append λ z hz=>by simp at hz;omega
theorem XI{x y:Nat}(hx:x<4294967296)(hy:y<4294967296):x*y<=18446744065119617025:=by have:=Nat.mul_le_mul (show x<=4294967295 by omega) (show y<=4294967295 by omega);omega
theorem IM(y:Nat)(hy:y<4294967296)(b:Bool)(a:List Int)(ha:ep a)(hb:a.length<=100000):∀(d i:Nat) (b1:Bool) (out:List Int) (c:Nat),i+d=a.length->ep out->out.length=i->c<4294967296->
  rk prog aK (.at_ 196 0 (aJ 87)
   (sv 40 [(1,V.d (D.i .u32 (y:Int))),(5,vl b1 (ints .u32 out)),(6,vu (c:Int)),(13,vl b (ints .u32 a)),(14,vi (a.length:Int)),(15,vi (i:Int))]) [(5,1)] [])=
  some (.d (nl (aW out+W^i*(c+aW (a.drop i)*y))),[]):=by
 intro d
 induction d with
 |zero=>
  intro i b1 out c hi hu hl hc;rw[Es];have h3:¬((i:Int)<(a.length:Int)):=by omega
  have hd:a.drop i=[]:=abJ (by omega);have hw:u32.wrap (c:Int)=(c:Int):=by rw[dt,oi hc]
  have hcut:=su false (out++[(c:Int)]) (hu.snoc hc) (by simp;omega);have hv:aW (out++[(c:Int)])=aW out+W^i*(c+aW (a.drop i)*y):=by rw[eF,hl,hd];simp[aW]
  rw[hv]at hcut;have hlen:i<=4294967295:=by omega
  simp[h3,hw,hl,hlen,jq,hcut,nl,v8]
 |succ d ih=>
  intro i b1 out c hi hu hl hc;rw[Es];have hx:i<a.length:=by omega
  have gx:=abl hx;obtain⟨x,ex,hx32⟩:=ha.get hx;have h3:((i:Int)<(a.length:Int)):=by omega
  have hlen:i<=4294967295:=by omega
  have hm:=XI hx32 hy;have hw1:u64.wrap ((c:Int)+u64.wrap (u64.wrap (x:Int)*u64.wrap (y:Int)))=((c+x*y:Nat):Int):=by rw[aY (x:Int),aY (y:Int),eD (by omega),eD (by omega),<-Int.natCast_mul,aY ((x*y:Nat):Int),eD (by omega),<-Int.natCast_add,aY,eD (by omega)]
  have hw2:u32.wrap ((c+x*y:Nat):Int)=(((c+x*y)%W:Nat):Int):=by rw[dt,sR]
  have hw3:((c+x*y:Nat):Int).fdiv 4294967296=(((c+x*y) / W:Nat):Int):=nY _;have hw:=ca i;have hmod:(c+x*y)%W<4294967296:=abz _ iJ;have hdiv:(c+x*y) / W<4294967296:=by unfold W;omega
  have ih':=ih (i+1) false (out++[(((c+x*y)%W:Nat):Int)]) ((c+x*y) / W) (by omega) (hu.snoc hmod) (by simp[hl]) hdiv;have hval:aW (out++[(((c+x*y)%W:Nat):Int)])+W^(i+1)*((c+x*y) / W+aW (a.drop (i+1))*y)=aW out+W^i*(c+aW (a.drop i)*y):=by rw[eF,hl,lD hx,ex];simp only[aW,abe,Nat.mul_zero,Nat.add_zero];rw[abx,aby,abm,<-abA];congr 2;have:=Nat.mod_add_div (c+x*y) W;rw[abA,<-aby,this,abw,abm,aby]
  rw[hval]at ih';rw[<-jq]at ih';generalize hT:(c+x*y:Nat)=T at hw1 hw2 hw3 ih';simp only[bo,h3,decide_true,if_true,cQ,bn,bO,ct,eW,gx,ex,Option.map_some,Option.bind_some,lg,kZ,abq,fw,Bool.or_true,cL,hl,Bool.and_false,hw1,hw2,hw3,hw,abe,List.getElem?_cons_zero,aA];rw[aaR (by simpa using hlen)];exact ih'
theorem N1(y:Nat)(hy:y<4294967296)(b:Bool)(x:Nat)(hx:(aT x).length<=100000):rk prog aK (.call 196 [vl b (ints .u32 (aT x)),V.d (D.i .u32 (y:Int))] [])=some (.d (nl (x*y)),[]):=by
 rw[f52];have h:=IM y hy b (aT x) (cW x) hx (aT x).length 0 false [] 0 (by omega) ep.nil rfl (by omega);rw[Int.natCast_zero,EP]at h;simp only[aW,Nat.pow_zero,Nat.one_mul,abv,List.drop_zero,cM]at h;have hw:i64.wrap (((aT x).length:Int)+1)=((aT x).length:Int)+1:=bD;have h1:(0:Int)<=((aT x).length:Int)+1:=by omega
 have h2:((aT x).length:Int)+1<=4294967296:=by omega
 simp only[cL,hw,bn,aa3 h1,aa3 h2,if_true,aA];exact h
def ws(n:Nat):List D:=ints .u32 (aT n)
def nb(n:Nat):Bool:=decide (n=0)
theorem nj(n:Nat):nl n = .l (nb n) (ws n):=rfl
@[simp] theorem ed(n:Nat):(ws n).length=(aT n).length:=by simp[ws]
@[simp] theorem Z8(n:Nat):bA 1 (ws n)=true:=by simp[ws]
theorem wK:ws 0=[]:=by simp[ws,bZ,ints]
theorem UB:nb 0=true:=rfl
def Fits(n:Nat):Prop:=n<W^10000
theorem AX{n k:Nat}(h:n<W^k):(aT n).length<=k:=by
 induction k generalizing n with
 |zero=>
  have:n=0:=by simpa using h
  rw[this,bZ];simp
 |succ k ih=>
  by_cases h0:n=0
  ·rw[h0,bZ];simp
  ·rw[fL h0,aaT];have:n / W<W^k:=by rw[abx]at h;exact Nat.div_lt_of_lt_mul (by rw[abD];exact h)
   have:=ih this;omega
theorem Fits.len{n:Nat}(h:Fits n):(aT n).length<=10000:=AX h
theorem Fits.le{m n:Nat}(h:Fits n)(hm:m<=n):Fits m:=Nat.lt_of_le_of_lt hm h
theorem JX(n:Nat)(h:n<18446744073709551616):rk prog aK (.call 160 [vu (n:Int)] [])=some (.d (.l (nb n) (ws n)),[]):=of_run n h
theorem RA(y:Nat)(hy:y<4294967296)(b:Bool)(x:Nat)(hx:Fits x):rk prog aK (.call 196 [vl b (ws x),V.d (D.i .u32 (y:Int))] [])=some (.d (.l (nb (x*y)) (ws (x*y))),[]):=
 N1 y hy b x (by have:=hx.len;omega)
set_option exponentiation.threshold 400000 in
theorem sG{n:Nat}(h:n<10000):Fits (10^n):=
 Nat.lt_of_le_of_lt (Nat.pow_le_pow_left (show 10<=W by decide) n) (Nat.pow_lt_pow_right (by decide) h)
theorem F9:∀(k:Nat) (v:Nat),Fits (v*10^k)->k<=1000->
  rk prog aK (LK (k:Int) (nb v) (ws v) [])=some (.d (.l (nb (v*10^k)) (ws (v*10^k))),[])
 |0,v,hv,hk=>by
  rw[Ed];simp
 |k+1,v,hv,hk=>by
  rw[Ed];have hle:v<=v*10^(k+1):=Nat.le_mul_of_pos_right _ (abt (by decide));have ht:rk prog aK (.call 196 [vl (nb v) (ws v),V.d (D.i .u32 10)] [])=some (.d (.l (nb (v*10)) (ws (v*10))),[]):=RA 10 (by decide) (nb v) v (hv.le hle);have e:v*10*10^k=v*10^(k+1):=by rw[abx,abm,abD 10]
  have ih:=F9 k (v*10) (by rw[e];exact hv) (by omega);have hp:(0:Int)<(k:Int)+1:=by omega
  have hw:i64.wrap (k:Int)=(k:Int):=bD;rw[e]at ih;simp[hp,hw,ht,ih]
theorem C9(n:Nat)(hn:n<=1000):rk prog aK (.call 166 [vi (n:Int)] [])=some (.d (.l (nb (10^n)) (ws (10^n))),[]):=by
 rw[f25];have h1:rk prog aK (.call 160 [vu 1] [])=some (.d (.l (nb 1) (ws 1)),[]):=JX 1 (by decide);have h2:=F9 n 1 (by rw[Nat.one_mul];exact sG (by omega)) hn;rw[Nat.one_mul]at h2;have hc1:¬((n:Int)<0):=by omega
 have hc2:¬((1000:Int)<(n:Int)):=by omega
 simp[hc1,hc2,PB,h1,h2]
theorem mA:∀(l:List Int) (j:Nat) (z:Int) (h:j<l.length),aW (l.set j z)+W^j*l[j].toNat=aW l+W^j*z.toNat
 | [],j,z,h=>by simp at h
 |x::l,0,z,h=>by simp[aW];omega
 |x::l,j+1,z,h=>by
  have ih:=mA l j z (by simpa using h);simp only[List.set_cons_succ,aW,List.getElem_cons_succ];rw[abx,abD (W^j) W,abm,abm,aby,<-abA,ih,abA,aby]
theorem ep.set{a:List Int}(h:ep a)(j:Nat){n:Nat}(hn:n<4294967296):ep (a.set j (n:Int)):=λ z hz=>by
 rcases List.mem_or_eq_of_mem_set hz with hz|rfl
 ·exact h z hz
 ·omega
theorem iB(a:List Int)(j:Nat)(z:Int):(cellsOf a).set j (V.d (.i .u32 z))=cellsOf (a.set j z):=by simp[cellsOf,ints,List.map_set]
theorem BT{a:List Int}{j m:Nat}(h:∀k,m<=k->k<a.length->a[k]?=some 0)(hj:j<m)(z:Int):∀k,m<=k->k<(a.set j z).length->(a.set j z)[k]?=some 0:=by intro k hk hl;rw[List.getElem?_set_ne (by omega)];exact h k hk (by simpa using hl)
def zD(by_ bx b2:Bool)(xs:List D)(y:List Int)(n i x:Nat)(c:Nat)(n8 n9:Int)(k:Nat)(out:List Int):Task:=
 Task.at_ 165 0 (aJ 44235)
   (sv 68 [(1,vl by_ (ints .u32 y)),(5,V.m 0 0 n),(6,vi (i:Int)),(7,V.d (D.i .u32 (x:Int))),(8,vu (c:Int)),(18,vl bx xs),(19,vi n8),(20,vi n9),(25,vl b2 (ints .u32 y)),(26,vi (y.length:Int)),(27,vi (k:Int))])
   [] [aC (cellsOf out)]
theorem xV(x:Nat)(hx:x<4294967296)(bx by_ b2:Bool)(xs:List D)(y:List Int)(hy:ep y)(i n:Nat)(hn:i+y.length<n)(hyl:n<=1000000)(n8 n9:Int):
  ∀(d k:Nat) (c:Nat) (out:List Int),k+d=y.length->ep out->out.length=n->c<4294967296->(∀j,i+y.length<=j->j<out.length->out[j]?=some 0)->
  ∃(c':Nat) (out':List Int),ep out'/\out'.length=n/\c'<4294967296/\(∀j,i+y.length<=j->j<out'.length->out'[j]?=some 0)/\
   aW out'+W^(i+y.length)*c'=aW out+W^(i+k)*(c+x*aW (y.drop k))/\
   rk prog aK (zD by_ bx b2 xs y n i x c n8 n9 k out)=rk prog aK (zD by_ bx b2 xs y n i x c' n8 n9 y.length out'):=by
 intro d
 induction d with
 |zero=>
  intro k c out hk hu hl hc hz;have hky:k=y.length:=by omega
  subst hky;refine⟨c,out,hu,hl,hc,hz,?_,rfl⟩;rw[List.drop_length];simp[aW]
 |succ d ih=>
  intro k c out hk hu hl hc hz;have hky:k<y.length:=by omega
  have gy:=abl hky;obtain⟨w,ew,hw32⟩:=hy.get hky;have hj:i+k<out.length:=by omega
  have gj:=abl hj;obtain⟨o,eo,ho32⟩:=hu.get hj;have hm:=XI hx hw32;have hT:c+(x*w+o)<18446744073709551616:=by omega
  have hmod:(c+(x*w+o))%W<4294967296:=abz _ iJ;have hdiv:(c+(x*w+o)) / W<4294967296:=by unfold W;omega
  obtain⟨c',out',u1,u2,u3,u4,u5,u6⟩:=ih (k+1) ((c+(x*w+o)) / W) (out.set (i+k) (((c+(x*w+o))%W:Nat):Int)) (by omega) (hu.set _ hmod) (by simpa using hl) hdiv (BT hz (by omega) _);refine⟨c',out',u1,u2,u3,u4,?_,?_⟩
  ·rw[u5];have hs:=mA out (i+k) (((c+(x*w+o))%W:Nat):Int) hj;rw[eo]at hs;simp only[abe]at hs;have hd:=Nat.mod_add_div (c+(x*w+o)) W;rw[lD hky,ew];simp only[abe];have e1:W^(i+(k+1))*((c+(x*w+o)) / W+x*aW (y.drop (k+1)))=W^(i+k)*(W*((c+(x*w+o)) / W))+W^(i+k)*(W*(x*aW (y.drop (k+1)))):=by rw[show i+(k+1)=(i+k)+1 from rfl,abx,abm,abA,abA]
   have e2:W^(i+k)*(c+x*(w+W*aW (y.drop (k+1))))=W^(i+k)*(c+x*w)+W^(i+k)*(W*(x*aW (y.drop (k+1)))):=by rw[<-abA];congr 1;rw[abA,<-aby];congr 1;rw[Nat.mul_left_comm]
   rw[e1,e2];have e3:W^(i+k)*((c+(x*w+o))%W)+W^(i+k)*(W*((c+(x*w+o)) / W))=W^(i+k)*(c+x*w)+W^(i+k)*o:=by rw[<-abA,hd,<-abA,aby]
   omega
  ·rw[<-u6];unfold zD;rw[vh];have h3:((k:Int)<(y.length:Int)):=by omega
   have hw1:i64.wrap ((i:Int)+(k:Int))=((i+k:Nat):Int):=bD;have hw2:=ca k;have hw3:u64.wrap ((c:Int)+u64.wrap (u64.wrap (u64.wrap (x:Int)*u64.wrap (w:Int))+u64.wrap (o:Int)))=((c+(x*w+o):Nat):Int):=by rw[aY (x:Int),aY (w:Int),aY (o:Int),eD (by omega),eD (by omega),eD (by omega),<-Int.natCast_mul,aY ((x*w:Nat):Int),eD (by omega),<-Int.natCast_add,aY ((x*w+o:Nat):Int),eD (by omega),<-Int.natCast_add,aY,eD hT]
   have hw4:u32.wrap ((c+(x*w+o):Nat):Int)=(((c+(x*w+o))%W:Nat):Int):=by rw[dt,sR]
   have hw5:((c+(x*w+o):Nat):Int).fdiv 4294967296=(((c+(x*w+o)) / W:Nat):Int):=nY _;generalize (c+(x*w+o):Nat)=T at hw3 hw4 hw5⊢;have hb1:(0:Int)<=((i+k:Nat):Int)/\((i+k:Nat):Int)<(n:Int):=by omega
   have hb2:i+k<(cellsOf out).length:=by rw[fk];exact hj
   simp only[bo,h3,decide_true,if_true,cQ,bn,bO,ct,eW,gy,ew,Option.map_some,Option.bind_some,lg,kZ,abq,hw1,hw2,abe,List.getElem?_cons_zero,aA,hb1,and_self,abv,dw,gj,eo,dN,hw3,hw4,hw5,hb2,Bool.and_true,decide_eq_true_eq,iB]
def Fi(by_ bx:Bool)(x y:List Int)(n i:Nat)(out:List Int):Task:=
 Kw (V.m 0 0 n) (x.length:Int) (i:Int) by_ bx (ints .u32 y) (ints .u32 x) [aC (cellsOf out)]
theorem UA(by_ bx:Bool)(x y:List Int)(hx:ep x)(hy:ep y)(n:Nat)(hn:n=x.length+y.length+1)(hb:n<=1000000)(i:Nat)(hi:i<x.length)(out:List Int)(hu:ep out)(hl:out.length=n)(hz:∀j,i+y.length<=j->j<out.length->out[j]?=some 0):
  ∃out',ep out'/\out'.length=n/\(∀j,(i+1)+y.length<=j->j<out'.length->out'[j]?=some 0)/\aW out'=aW out+W^i*(x[i].toNat*aW y)/\
   rk prog aK (Fi by_ bx x y n i out)=rk prog aK (Fi by_ bx x y n (i+1) out'):=by
 have gx:=abl hi;obtain⟨a,ea,ha32⟩:=hx.get hi;obtain⟨c',o',u1,u2,u3,u4,u5,u6⟩:=xV a ha32 bx by_ by_ (ints .u32 x) y hy i n (by omega) hb (x.length:Int) (i:Int) y.length 0 0 out (by omega) hu hl (by decide) hz;have hj:i+y.length<o'.length:=by omega
 refine⟨o'.set (i+y.length) (c':Int),u1.set _ u3,by simpa using u2,λ j h1 h2=>?_,?_,?_⟩
 ·rw[List.getElem?_set_ne (by omega)]
  exact u4 j (by omega) (by simpa using h2)
 ·have hs:=mA o' (i+y.length) (c':Int) hj;have h0:o'[i+y.length]=0:=by have:=u4 (i+y.length) (aa4 _) hj;rw[abl hj]at this;exact Option.some.inj this
  rw[h0]at hs;simp only[abe,Int.toNat_zero,Nat.mul_zero,Nat.add_zero]at hs;rw[hs,u5,List.drop_zero,Nat.add_zero,abv,ea,abe]
 ·have e1:rk prog aK (Fi by_ bx x y n i out)=rk prog aK (zD by_ bx by_ (ints .u32 x) y n i a 0 (x.length:Int) (i:Int) 0 out):=by
   unfold Fi zD;rw[Ec];have h3:((i:Int)<(x.length:Int)):=by omega
   simp[h3,gx,ea]
  rw[e1,u6];unfold zD Fi;rw[vh];have h3:¬((y.length:Int)<(y.length:Int)):=by omega
  have hw1:i64.wrap ((i:Int)+(y.length:Int))=((i+y.length:Nat):Int):=bD;have hw2:=ca i;have hw4:u32.wrap (c':Int)=(c':Int):=by rw[dt,oi u3]
  have hb1:(0:Int)<=((i+y.length:Nat):Int)/\((i+y.length:Nat):Int)<(n:Int):=by omega
  have hb2:i+y.length<(cellsOf o').length:=by rw[fk];exact hj
  simp only[bo,h3,decide_false,Bool.false_eq_true,if_false,bn,cL,hw1,hw2,hw4,abe,aA,hb1,and_self,decide_true,if_true,abv,hb2,Bool.and_true,decide_eq_true_eq,iB]
theorem Ng(by_ bx:Bool)(x y:List Int)(hx:ep x)(hy:ep y)(n:Nat)(hn:n=x.length+y.length+1)(hb:n<=1000000):∀(d i:Nat) (out:List Int),i+d=x.length->ep out->out.length=n->(∀j,i+y.length<=j->j<out.length->out[j]?=some 0)->aW out=aW (x.take i)*aW y->
  rk prog aK (Fi by_ bx x y n i out)=some (.d (.l (nb (aW x*aW y)) (ws (aW x*aW y))),[]):=by
 intro d
 induction d with
 |zero=>
  intro i out hi hu hl hz hv;have hix:i=x.length:=by omega
  subst hix;rw[List.take_length]at hv;unfold Fi;rw[Ec];have h3:¬((x.length:Int)<(x.length:Int)):=by omega
  have hc:=DN out hu (by omega);rw[hl,hv,nj]at hc;simp[hc]
 |succ d ih=>
  intro i out hi hu hl hz hv;have hix:i<x.length:=by omega
  obtain⟨o',u1,u2,u3,u4,u5⟩:=UA by_ bx x y hx hy n hn hb i hix out hu hl hz;rw[u5];refine ih (i+1) o' (by omega) u1 u2 u3 ?_;rw[u4,hv,List.take_add_one,abl hix,eF];simp only[Option.toList_some,aW,Nat.mul_zero,Nat.add_zero,List.length_take,Nat.min_eq_left (Nat.le_of_lt hix)];rw[abw,abm]
theorem gY(n:Nat):aW (List.replicate n 0)=0:=by
 induction n with
 |zero=>rfl
 |succ n ih=>simp[List.replicate_succ,aW,ih]
theorem gT(n:Nat):List.replicate n (V.d (D.i .u32 0))=cellsOf (List.replicate n 0):=by simp[cellsOf,ints]
theorem CK(b c:Bool)(x y:Nat)(hx:Fits x)(hy:Fits y):rk prog aK (.call 165 [vl b (ws x),vl c (ws y)] [])=some (.d (.l (nb (x*y)) (ws (x*y))),[]):=by
 rw[f24];have lx:=hx.len;have ly:=hy.len
 have h:=Ng c b (aT x) (aT y) (cW x) (cW y) ((aT x).length+(aT y).length+1) rfl (by omega) (aT x).length 0 (List.replicate ((aT x).length+(aT y).length+1) 0) (by omega)
  (λ z hz=>by rw[List.mem_replicate]at hz;omega) (by simp) (λ j _ hj=>by simp at hj;simp[hj]) (by rw[gY];simp[aW])
 rw[cM,cM]at h;unfold Fi at h;rw[<-gT,Int.natCast_zero]at h;have hw1:i64.wrap (((aT x).length:Int)+((aT y).length:Int))=(((aT x).length+(aT y).length:Nat):Int):=bD;have hw2:i64.wrap ((((aT x).length+(aT y).length:Nat):Int)+1)=(((aT x).length+(aT y).length+1:Nat):Int):=bD;have c1:(0:Int)<=(((aT x).length+(aT y).length+1:Nat):Int):=by omega
 have c2:(((aT x).length+(aT y).length+1:Nat):Int)<=4294967296:=by omega
 simp only[ed,hw1,hw2,bn,aa3 c1,aa3 c2,decide_true,if_true,abe,aA];exact h
theorem OL(b_0 b_2 b_5:Bool)(y x:List Int)(out:List Int)(i:Nat)(T:Nat)(hl:out.length=i)(hi:i<=100000)(R:Option Out)
  (h:rk prog aK (.at_ 199 0 (aJ 175)
   (Z0 ((T / W:Nat):Int) (x.length:Int) ((i+1:Nat):Int) b_0 false b_5 (ints .u32 y) (ints .u32 (out++[((T%W:Nat):Int)])) (ints .u32 x)) [(5,1)] [])=R):
  rk prog aK (.at_ 199 0 (aJ 62255)
   (Z0 (T:Int) (x.length:Int) (i:Int) b_0 b_2 b_5 (ints .u32 y) (ints .u32 out) (ints .u32 x)) [(5,1)] [])=R:=by
 rw[Ep];have hw2:u32.wrap (T:Int)=((T%W:Nat):Int):=by rw[dt,sR]
 have hw3:(T:Int).fdiv 4294967296=((T / W:Nat):Int):=nY _;have hw:=ca i;have hle:out.length+1<=4294967296:=by omega
 simp only[fw,bn,if_true,Bool.or_true,cL,aa3 hle,hw2,hw3,hw,jq,Bool.and_false,aA];exact h
theorem OK(b_0 b_5:Bool)(y x:List Int)(hx:ep x)(hy:ep y)(hb:x.length<=100000)(hyx:y.length<=x.length):∀(d i:Nat) (b1:Bool) (out:List Int) (c:Nat),i+d=x.length->ep out->out.length=i->c<4294967296->
  rk prog aK (.at_ 199 0 (aJ 175)
   (Z0 (c:Int) (x.length:Int) (i:Int) b_0 b1 b_5 (ints .u32 y) (ints .u32 out) (ints .u32 x)) [(5,1)] [])=
  some (.d (nl (aW out+W^i*(c+aW (x.drop i)+aW (y.drop i)))),[]):=by
 intro d
 induction d with
 |zero=>
  intro i b1 out c hi hu hl hc;rw[Ay];have h3:¬((i:Int)<(x.length:Int)):=by omega
  have hd:x.drop i=[]:=abJ (by omega);have hd2:y.drop i=[]:=abJ (by omega);have hw:u32.wrap (c:Int)=(c:Int):=by rw[dt,oi hc]
  have hcut:=su false (out++[(c:Int)]) (hu.snoc hc) (by simp;omega);have hv:aW (out++[(c:Int)])=aW out+W^i*(c+aW (x.drop i)+aW (y.drop i)):=by rw[eF,hl,hd,hd2];simp[aW]
  rw[hv]at hcut;have hlen:i<=4294967295:=by omega
  simp[h3,hw,hl,hlen,jq,hcut,nl]
 |succ d ih=>
  intro i b1 out c hi hu hl hc;have hxi:i<x.length:=by omega
  have gx:=abl hxi;obtain⟨u,eu,hu32⟩:=hx.get hxi;have h3:((i:Int)<(x.length:Int)):=by omega
  have hw1:u64.wrap ((c:Int)+u64.wrap (u:Int))=((c+u:Nat):Int):=by rw[aY (u:Int),eD (by omega),<-Int.natCast_add,aY,eD (by omega)]
  have key:∀T:Nat,T<18446744073709551616->(W^i*(T+W*(aW (x.drop (i+1))+aW (y.drop (i+1))))=W^i*(c+aW (x.drop i)+aW (y.drop i)))->
    rk prog aK (.at_ 199 0 (aJ 62255)
   (Z0 (T:Int) (x.length:Int) (i:Int) b_0 b1 b_5 (ints .u32 y) (ints .u32 out) (ints .u32 x)) [(5,1)] [])=
   some (.d (nl (aW out+W^i*(c+aW (x.drop i)+aW (y.drop i)))),[]):=by
   intro T hT hv;have hmod:T%W<4294967296:=abz _ iJ;have hdiv:T / W<4294967296:=by unfold W;omega
   refine OL b_0 b1 b_5 y x out i T hl (by omega) _ ?_;rw[ih (i+1) false (out++[((T%W:Nat):Int)]) (T / W) (by omega) (hu.snoc hmod) (by simp[hl]) hdiv];congr 4;rw[eF,hl,<-hv];simp only[aW,abe,Nat.mul_zero,Nat.add_zero];rw[abx,aby,abm,<-abA];congr 2;have:=Nat.mod_add_div T W;rw[aby,abA,<-aby,this]
  rw[Ay];by_cases hyi:i<y.length
  ·have gy:=abl hyi;obtain⟨v,ev,hv32⟩:=hy.get hyi;have h4:((i:Int)<(y.length:Int)):=by omega
   have hw2:u64.wrap (((c+u:Nat):Int)+u64.wrap (v:Int))=((c+u+v:Nat):Int):=by rw[aY (v:Int),eD (by omega),<-Int.natCast_add,aY,eD (by omega)]
   have hk:=key (c+u+v) (by omega) (by
    rw[lD hxi,lD hyi,eu,ev];simp only[abe];congr 1
    rw[abA];omega)
   generalize (c+u+v:Nat)=T at hw2 hk;generalize (c+u:Nat)=T0 at hw1 hw2;simp only[bo,h3,h4,decide_true,if_true,cQ,bn,bO,ct,eW,gx,gy,eu,ev,Option.map_some,Option.bind_some,lg,kZ,abq,cL,hw1,hw2,abe,List.getElem?_cons_zero,aA];exact hk
  ·have h4:¬((i:Int)<(y.length:Int)):=by omega
   have hk:=key (c+u) (by omega) (by
    rw[lD hxi,eu,abJ (show y.length<=i by omega),abJ (show y.length<=i+1 by omega)];simp only[abe,aW,Nat.add_zero]
    congr 1;omega)
   generalize (c+u:Nat)=T at hw1 hk;simp only[bo,h3,h4,decide_true,decide_false,Bool.false_eq_true,if_true,if_false,cQ,bn,bO,ct,eW,gx,eu,Option.map_some,Option.bind_some,lg,kZ,abq,cL,hw1,abe,List.getElem?_cons_zero,aA];exact hk
theorem Jh(b c:Bool)(x y:Nat)(hx:Fits x)(hyx:(aT y).length<=(aT x).length):
  rk prog aK (LP b c (ws x) (ws y) [])=some (.d (.l (nb (x+y)) (ws (x+y))),[]):=by
 rw[Uc];have lx:=hx.len;have h:=OK c b (aT y) (aT x) (cW x) (cW y) (by omega) hyx (aT x).length 0 false [] 0 (by omega) ep.nil rfl (by decide);simp only[aW,Nat.pow_zero,Nat.one_mul,abv,List.drop_zero,cM,EP,Int.natCast_zero]at h;have hw:i64.wrap (((aT x).length:Int)+1)=((aT x).length:Int)+1:=bD;have h1:(0:Int)<=((aT x).length:Int)+1:=by omega
 have h2:((aT x).length:Int)+1<=4294967296:=by omega
 simp only[ed,hw,bn,aa3 h1,aa3 h2,if_true,aA];exact h
theorem OM(b c:Bool)(x y:Nat)(hx:Fits x)(hy:Fits y):rk prog aK (.call 199 [vl b (ws x),vl c (ws y)] [])=some (.d (.l (nb (x+y)) (ws (x+y))),[]):=by
 rw[f50];by_cases h:(aT x).length<(aT y).length
 ·have hi:((aT x).length:Int)<((aT y).length:Int):=by omega
  have:=Jh c b y x hy (by omega);rw[Nat.add_comm]at this;simp only[ed,bo,aa3 hi,if_true,aA,this]
 ·have hi:¬((aT x).length:Int)<((aT y).length:Int):=by omega
  have:=Jh b c x y hx (by omega);simp only[ed,bo,abf hi,Bool.false_eq_true,if_false,aA,this]
theorem rq(b:Bool)(x:Nat)(hx:Fits x):rk prog aK (.call 162 [vl b (ws x)] [])=some (.d (.l (nb x) (ws x)),[]):=by have:=su b (aT x) (cW x) (by have:=hx.len;omega);rw[cM]at this;exact this
theorem mK{a b:Nat}(ha:a<18446744073709551616)(hb:b<18446744073709551616):((BitVec.ofInt 64 (a:Int) ||| BitVec.ofInt 64 (b:Int)).toNat)=a ||| b:=by rw[BitVec.toNat_or,BitVec.ofInt_natCast,BitVec.ofInt_natCast,BitVec.toNat_ofNat,BitVec.toNat_ofNat,abF (by simpa using ha),abF (by simpa using hb)]
theorem pU{c a k:Nat}(h:c<2^k):c ||| (a*2^k)=c+a*2^k:=by rw[Nat.or_comm,abD a,<-Nat.two_pow_add_eq_or_of_lt h,Nat.add_comm]
theorem kM(n m:Nat):(n:Int).tmod (m:Int)=((n%m:Nat):Int):=(Int.ofNat_tmod n m).symm
theorem fV(n m:Nat):(n:Int).tdiv (m:Int)=((n / m:Nat):Int):=(Int.ofNat_tdiv n m).symm
theorem Rb(n:Nat)(b:Bool)(x:List Int)(hx:ep x)(hb:x.length<=100000)(q:Nat)(hq:q<=500000):∀(d i:Nat) (b1:Bool) (out:List Int) (c:Nat),i+d=x.length->ep out->out.length=q+i->c<2^(n%32)->
  rk prog aK (.at_ 161 0 (aJ 351)
   (sv 65 [(1,vi (n:Int)),(5,vl b1 (ints .u32 out)),(6,vu (c:Int)),(38,vl b (ints .u32 x)),(39,vi (x.length:Int)),(40,vi (i:Int))]) [(5,1)] [])=
  some (.d (nl (aW out+W^(q+i)*(c+aW (x.drop i)*2^(n%32)))),[]):=by
 have hk:n%32<32:=abz _ (by decide);have h2k:2^(n%32)<=2147483648:=abI (abM (by decide) (show n%32<=31 by omega)) (by decide);have h2p:0<2^(n%32):=abt (by decide);intro d
 induction d with
 |zero=>
  intro i b1 out c hi hu hl hc;rw[Az];have h3:¬((i:Int)<(x.length:Int)):=by omega
  have hd:x.drop i=[]:=abJ (by omega);have hc':c<4294967296:=by omega
  have hw:u32.wrap (c:Int)=(c:Int):=by rw[dt,oi hc']
  have hcut:=su false (out++[(c:Int)]) (hu.snoc hc') (by simp;omega);have hv:aW (out++[(c:Int)])=aW out+W^(q+i)*(c+aW (x.drop i)*2^(n%32)):=by rw[eF,hl,hd];simp[aW]
  rw[hv]at hcut;have hlen:q+i+1<=4294967296:=by omega
  simp only[bo,h3,decide_false,Bool.false_eq_true,if_false,bn,fw,if_true,Bool.or_true,cL,hl,aa3 hlen,hw,jq,Bool.and_false,bK,hcut,Option.bind_some,List.isEmpty_nil];simp[nl]
 |succ d ih=>
  intro i b1 out c hi hu hl hc;rw[Az];have hxi:i<x.length:=by omega
  have gx:=abl hxi;obtain⟨a,ea,ha32⟩:=hx.get hxi;have h3:((i:Int)<(x.length:Int)):=by omega
  have hle:q+i+1<=4294967296:=by omega
  have hak:a*2^(n%32)<=4294967295*2147483648:=Nat.mul_le_mul (by omega) h2k;have hm:(n:Int).tmod 32=((n%32:Nat):Int):=kM n 32;have hmin:min (n%32) 64=n%32:=Nat.min_eq_left (by omega);have hw0:u64.wrap (u64.wrap (a:Int)*2^(n%32))=((a*2^(n%32):Nat):Int):=by
   rw[aY (a:Int),eD (by omega)];have:(a:Int)*2^(n%32)=((a*2^(n%32):Nat):Int):=by simp
   rw[this,aY,eD (by omega)]
  have hor:((BitVec.ofInt u64.bits (c:Int) ||| BitVec.ofInt u64.bits ((a*2^(n%32):Nat):Int)).toNat)=c+a*2^(n%32):=by have:=mK (a:=c) (b:=a*2^(n%32)) (by omega) (by omega);rw[pU hc]at this;exact this
  have hw1:u64.wrap ((c+a*2^(n%32):Nat):Int)=((c+a*2^(n%32):Nat):Int):=by rw[aY,eD (by omega)]
  have hw2:u32.wrap ((c+a*2^(n%32):Nat):Int)=(((c+a*2^(n%32))%W:Nat):Int):=by rw[dt,sR]
  have hw3:((c+a*2^(n%32):Nat):Int).fdiv 4294967296=(((c+a*2^(n%32)) / W:Nat):Int):=nY _;have hw:=ca i;have hmod:(c+a*2^(n%32))%W<4294967296:=abz _ iJ;have hdiv:(c+a*2^(n%32)) / W<2^(n%32):=by apply Nat.div_lt_of_lt_mul;have:a*2^(n%32)<=4294967295*2^(n%32):=abH _ (by omega);unfold W;omega
  have ih':=ih (i+1) false (out++[(((c+a*2^(n%32))%W:Nat):Int)]) ((c+a*2^(n%32)) / W) (by omega) (hu.snoc hmod) (by simp[hl];omega) hdiv;have hval:aW (out++[(((c+a*2^(n%32))%W:Nat):Int)])+W^(q+(i+1))*((c+a*2^(n%32)) / W+aW (x.drop (i+1))*2^(n%32))=aW out+W^(q+i)*(c+aW (x.drop i)*2^(n%32)):=by rw[eF,hl,lD hxi,ea];simp only[aW,abe,Nat.mul_zero,Nat.add_zero];rw[show q+(i+1)=(q+i)+1 from rfl,abx,aby,abm,<-abA];congr 2;have:=Nat.mod_add_div (c+a*2^(n%32)) W;rw[abA,<-aby,this,abw,abm,aby]
  rw[hval,<-jq]at ih';have hp:(0:Int)<=((n%32:Nat):Int):=by omega
  generalize (c+a*2^(n%32):Nat)=T at hor hw1 hw2 hw3 ih';simp only[bo,h3,decide_true,if_true,cQ,bn,bO,ct,eW,gx,ea,Option.map_some,Option.bind_some,lg,kZ,abq,fw,Bool.or_true,cL,hl,aa3 hle,Bool.and_false,hm,aa3 hp,abe,hmin,hw0,hor,hw1,hw2,hw3,hw,List.getElem?_cons_zero,aA];exact ih'
theorem Dv(q k:Nat):W^q*2^k=2^(32*q+k):=by
 have:W=2^32:=by decide
 rw[this,<-Nat.pow_mul,<-abC]
theorem xG(n:Nat):List.replicate n (D.i .u32 0)=ints .u32 (List.replicate n 0):=by simp[ints]
theorem C4(b:Bool)(x n:Nat)(hx:Fits x)(hn:n<=1000000):rk prog aK (.call 161 [vl b (ws x),vi (n:Int)] [])=some (.d (.l (nb (x*2^n)) (ws (x*2^n))),[]):=by
 rw[f53];have lx:=hx.len;have hcut:=rq b x hx;have h1:¬((n:Int)<i64.wrap (-32*i64.wrap (((aT x).length:Int)+1))):=by rw[wrap_i64 (n:=((aT x).length:Int)+1) (by omega) (by omega),iZ];omega
 have h2:¬((n:Int)<0):=by omega
 by_cases h0:x=0
 ·subst h0;have h3:(aT 0).length=0:=by rw[bZ];rfl
  rw[Nat.zero_mul];simp only[bK,hcut,Option.bind_some,List.isEmpty_nil,bn,if_true,dN,iP,ed,bo,abf h2,Bool.false_eq_true,if_false,h3,Int.natCast_zero,abq,aG,ite_self];rw[UB,wK]
 ·have h3:(aT x).length≠0:=λ e=>h0 ((fZ x).1 (List.length_eq_zero_iff.1 e));have h4:(((aT x).length:Int)==0)=false:=abr.2 (by omega);have hd:(n:Int).tdiv 32=((n / 32:Nat):Int):=fV n 32;have hq:n / 32<=500000:=by clear h1;omega
  have hw1:i64.wrap ((n / 32:Nat):Int)=((n / 32:Nat):Int):=bD;have hw2:i64.wrap (((n / 32:Nat):Int)+((aT x).length:Int))=((n / 32:Nat):Int)+((aT x).length:Int):=bD;have hw3:i64.wrap (((n / 32:Nat):Int)+((aT x).length:Int)+1)=((n / 32:Nat):Int)+((aT x).length:Int)+1:=bD;have c1:(0:Int)<=((n / 32:Nat):Int):=by omega
  have c2:((n / 32:Nat):Int)<=((n / 32:Nat):Int)+((aT x).length:Int)+1:=by omega
  have c3:((n / 32:Nat):Int)+((aT x).length:Int)+1<=4294967296:=by omega
  have h:=Rb n (nb x) (aT x) (cW x) (by omega) (n / 32) hq (aT x).length 0 false (List.replicate (n / 32) 0) 0 (by omega) (λ z hz=>by rw[List.mem_replicate]at hz;omega) (by simp) (abt (by decide));rw[gY,abv,abv,Nat.add_zero,List.drop_zero,cM,Nat.mul_left_comm,Dv,Nat.div_add_mod,<-xG,nj,Int.natCast_zero]at h;simp only[bK,hcut,Option.bind_some,List.isEmpty_nil,bn,if_true,dN,iP,ed,bo,abf h1,abf h2,Bool.false_eq_true,if_false,h4,hd,hw1,hw2,hw3,aa3 c1,aa3 c2,aa3 c3,abe];rw[show ws x=ints .u32 (aT x)from rfl];rw[h];rfl
theorem po{k:Nat}{g:List V->List Ob->Option Out}(h:aK.ext k=some g)(args:List V)(S:List Ob):rk prog aK (.call k args S)=g args S:=by rw[Bp];simp only[oN,h,cQ];cases g args S<;>simp
theorem HP(n:Nat)(h:n<4294967296):rk prog aK (.call 163 [V.d (D.i .u32 (n:Int))] [])=some (.d (.i .i64 (bJ n:Nat)),[]):=by
 rw[po (g:=pI) rfl];have h1:(0:Int)<=(n:Int)/\(n:Int)<4294967296:=by omega
 simp only[pI,aaR h1,abe]
theorem og(n:Nat):n<2^bJ n:=by
 unfold bJ;split
 ·subst n;decide
 ·exact Nat.lt_log2_self
theorem ql(n:Nat)(h:n≠0):2^(bJ n-1)<=n:=by unfold bJ;rw[aaN h,Nat.add_sub_cancel];exact Nat.log2_self_le h
theorem mW{n:Nat}(h:n≠0):0<bJ n:=by unfold bJ;rw[aaN h];omega
theorem du(n k:Nat):bJ n<=k↔n<2^k:=by
 constructor
 ·intro h;exact abL (og n) (abM (by decide) h)
 ·intro h;by_cases h0:n=0
  ·subst h0;simp[bJ]
  ·have h1:=ql n h0;have h2:=mW h0;have:2^(bJ n-1)<2^k:=Nat.lt_of_le_of_lt h1 h;have:=(Nat.pow_lt_pow_iff_right (show 1<2 by decide)).1 this;omega
theorem B5{n k:Nat}(h1:2^k<=n)(h2:n<2^(k+1)):bJ n=k+1:=by
 have a:=(du n (k+1)).2 h2;have b:¬bJ n<=k:=λ h=>by have:=(du n k).1 h;omega
 omega
theorem xP(n:Nat)(h:n≠0):∃m z:Nat,(aT n).length=m+1/\(aT n)[m]?=some (z:Int)/\z≠0/\z<W/\n / W^m=z:=by
  induction n using Nat.strongRecOn with
  |ind n ih=>
    rw[fL h];by_cases h2:n / W=0
    · rw [h2, bZ]
      have h3 : n < W := by rcases Nat.div_eq_zero_iff.1 h2 with h | h; · exact absurd h (by decide)
                            · exact h
      refine⟨0,n,rfl,?_,h,h3,by simp⟩;simp[abF h3]
    · obtain ⟨m, z, a, b, c, d, e⟩ := ih (n / W) (Nat.div_lt_self (by omega) (by decide)) h2
      refine⟨m+1,z,by rw[aaT,a],by rw[List.getElem?_cons_succ,b],c,d,?_⟩;rw[abx,abD,<-Nat.div_div_eq_div_mul,e]
theorem YF:W=2^32:=by decide
theorem nK(m:Nat):W^m=2^(32*m):=by rw[YF,<-Nat.pow_mul]
theorem B4(b:Bool)(x:Nat)(hx:Fits x):rk prog aK (.call 113 [vl b (ws x)] [])=some (.d (.i .i64 (bJ x:Nat)),[]):=by
 rw[f34];have lx:=hx.len;have hcut:=rq b x hx;by_cases h0:x=0
 ·subst h0;simp[hcut,bZ,bJ]
 ·obtain⟨m,z,a,g,c,d,e⟩:=xP x h0;have h4:((((aT x).length:Nat):Int)==0)=false:=abr.2 (by omega);have hw:i64.wrap (((aT x).length:Int)-1)=(m:Int):=bD;have hz:=HP z d;have hlen:bJ x=32*m+bJ z:=by
   have hb:=mW c;have h1:=ql z c;have h2:=og z;have e1:2^(32*m+(bJ z-1))<=x:=by
    rw[abC,<-nK];have:W^m*z<=x:=by rw[<-e];exact Nat.mul_div_le x (W^m)
    exact abI (Nat.mul_le_mul_left _ h1) this
   have e2:x<2^(32*m+(bJ z-1)+1):=by
    rw[show 32*m+(bJ z-1)+1=32*m+bJ z by omega,abC,<-nK];have:x<W^m*(z+1):=by rw[<-e];exact Nat.lt_mul_div_succ x (abt iJ)
    exact abL this (Nat.mul_le_mul_left _ h2)
   rw[B5 e1 e2];omega
  have hbz:bJ z<=32:=(du z 32).2 d;have hw2:i64.wrap (32*(m:Int))=32*(m:Int):=bD;have hw3:i64.wrap (32*(m:Int)+(bJ z:Int))=(bJ x:Int):=bD;have hg:(ws x)[m]?=some (D.i .u32 (z:Int)):=by rw[ws,eW,g];rfl
  simp only[bK,hcut,Option.bind_some,List.isEmpty_nil,bn,if_true,dN,iP,ed,bo,h4,Bool.false_eq_true,if_false,hw,ct,hg,cQ,lg,abq,abe,kZ,List.getElem?_cons_zero,bO,hz,hw2,hw3,aG]
def gB(x y:Nat):Int:=if x<y then -1 else if y<x then 1 else 0
theorem nA(a:List Int)(i:Nat)(h:i<a.length):aW (a.take (i+1))=aW (a.take i)+W^i*a[i].toNat:=by rw[List.take_add_one,abl h,eF,List.length_take,Nat.min_eq_left (by omega)];simp[aW]
theorem lex_lt{i p q x y:Nat}(hp:p<W^i)(h:x<y):p+W^i*x<q+W^i*y:=by have h1:W^i*(x+1)<=W^i*y:=Nat.mul_le_mul_left _ h;rw[abA,Nat.mul_one]at h1;omega
theorem DI(b_0 b_2:Bool)(a c:List Int)(ha:ep a)(hc:ep c)(hb:a.length<=100000)(hac:a.length=c.length):∀i:Nat,i<=a.length->
  rk prog aK (Ll ((i:Int)-1) b_0 b_2 (ints .u32 a) (ints .u32 c) [])=
   some (.d (.i .i64 (gB (aW (a.take i)) (aW (c.take i)))),[])
 |0,hi=>by
  rw[Ev];simp[gB]
 |i+1,hi=>by
  rw[Ev];have ih:=DI b_0 b_2 a c ha hc hb hac i (by omega);have hia:i<a.length:=by omega
  have hic:i<c.length:=by omega
  obtain⟨u,eu,hu⟩:=ha.get hia;obtain⟨v,ev,hv⟩:=hc.get hic;have ga:a[i]?=some (u:Int):=by rw[abl hia,eu]
  have gc:c[i]?=some (v:Int):=by rw[abl hic,ev]
  have pa:=qe (ha.take i);have pc:=qe (hc.take i);rw[List.length_take,Nat.min_eq_left (by omega)]at pa pc;have e0:(((i+1:Nat):Int)-1)=(i:Int):=by omega
  have h0:(i:Int) ≥ 0:=by omega
  have hw:i64.wrap ((i:Int)-1)=(i:Int)-1:=bD;rw[e0,nA a i hia,nA c i hic,eu,ev];simp only[abe];generalize aW (a.take i)=p at *;generalize aW (c.take i)=q at *;rcases Nat.lt_trichotomy u v with h|h|h
  ·have h1:(u:Int)<(v:Int):=by omega
   have h2:gB (p+W^i*u) (q+W^i*v) = -1:=by unfold gB;rw[aaR (lex_lt pa h)]
   simp[h0,ga,gc,h1,h2]
  ·subst h;have h2:gB (p+W^i*u) (q+W^i*u)=gB p q:=by
    unfold gB;congr 1
    ·exact propext (by omega)
    ·congr 1;exact propext (by omega)
   rw[h2];simp[h0,ga,gc,hw,ih]
  ·have h1:¬(u:Int)<(v:Int):=by omega
   have h1':(v:Int)<(u:Int):=by omega
   have h2:gB (p+W^i*u) (q+W^i*v)=1:=by have:=lex_lt (q:=p) pc h;unfold gB;rw[cE,aaR this]
   simp[h0,ga,gc,h1,h1',h2]
theorem gP(n:Nat):n<W^(aT n).length:=by
 have:=qe (cW n)
 rwa[cM]at this
theorem CF(n:Nat)(h:n≠0):W^((aT n).length-1)<=n:=by
 obtain⟨m,z,a,g,c,d,e⟩:=xP n h;rw[a,Nat.add_sub_cancel];have:W^m*z<=n:=by rw[<-e];exact Nat.mul_div_le n (W^m)
 exact abI (Nat.le_mul_of_pos_right _ (by omega)) this
theorem xM{x y:Nat}(h:(aT x).length<(aT y).length):x<y:=by
 have h1:=gP x;have hy:y≠0:=λ e=>by rw[e,bZ]at h;simp at h
 have h2:=CF y hy;have:W^(aT x).length<=W^((aT y).length-1):=abM iJ (by omega);omega
theorem G4(b c:Bool)(x y:Nat)(hx:Fits x)(hy:Fits y):rk prog aK (.call 164 [vl b (ws x),vl c (ws y)] [])=some (.d (.i .i64 (gB x y)),[]):=by
 rw[f62];have lx:=hx.len;have ly:=hy.len;have c1:=rq b x hx;have c2:=rq c y hy;simp only[bK,c1,c2,Option.bind_some,List.isEmpty_nil,bn,if_true,dN,iP,ed,bo,decide_eq_true_eq];by_cases h1:(aT x).length<(aT y).length
 ·have:=xM h1;rw[aaR (by omega),gB,aaR this];rfl
 ·by_cases h2:(aT y).length<(aT x).length
  ·have:=xM h2;rw[cE,aaR (by omega),gB,cE,aaR this];rfl
  ·have h3:(aT x).length=(aT y).length:=by omega
   have:=DI (nb x) (nb y) (aT x) (aT y) (cW x) (cW y) (by omega) h3 (aT x).length (aa4 _);rw[List.take_length,h3,List.take_length,cM,cM]at this;have hw:i64.wrap (((aT y).length:Int)-1)=((aT y).length:Int)-1:=bD;rw[cE,cE,h3,hw,ws,ws,this];rfl
theorem Qi(b:Bool)(x:Nat)(hx:Fits x):rk prog aK (.call 168 [vl b (ws x)] [])=some (.d (.i .u64 ((x%18446744073709551616:Nat):Int)),[]):=by
  have step:∀n_2:Int,∀n_3:Int,∀i:Nat,(i:Int)<n_3->i<=1->∀u:Nat,(aT x)[i]?=some (u:Int)->
     rk prog aK (Oc n_2 n_3 (i:Int) b (ws x) [])=
     rk prog aK (Oc (u64.wrap (((BitVec.ofInt u64.bits n_2 ||| BitVec.ofInt u64.bits (u64.wrap (u64.wrap (u:Int)*2^(32*i)))).toNat:Nat):Int)) n_3 ((i+1:Nat):Int) b (ws x) []):=by
    intro n_2 n_3 i hi hi1 u hu;rw[Et];have hg:(ws x)[i]?=some (D.i .u32 (u:Int)):=by rw[ws,eW,hu];rfl
    have hw:i64.wrap (32*(i:Int))=((32*i:Nat):Int):=bD;have hw1:=ca i;have hp:(0:Int)<=((32*i:Nat):Int):=by omega
    have hm:min (32*i) 64=32*i:=by omega
    simp only[bo,aa3 hi,if_true,cQ,ct,hg,Option.bind_some,lg,abq,bn,abe,kZ,List.getElem?_cons_zero,bO,hw,hw1,aa3 hp,hm,aA]
  have fin:∀n_2:Int,∀n:Int,rk prog aK (Oc n_2 n n b (ws x) [])=some (.d (.i .u64 n_2),[]):=by
    intro n_2 n;rw[Et];have:¬n<n:=by omega
    simp[this]
  rw[f56,ed,aA];by_cases h0:x=0
  · subst h0
    rw[bZ];exact fin 0 0
  · have e0 := fL h0
    have hm:=abz x iJ;have hmd:=Nat.mod_add_div x W;have s1:=step 0;by_cases h1:x / W=0
    · rw [h1, bZ] at e0
      have hx1:x<W:=by rw[h1,Nat.mul_zero]at hmd;omega
      have:=s1 1 0 (by decide) (by decide) (x%W) (by rw[e0];rfl);rw[e0];refine Eq.trans this ?_;rw[abF hx1];have hW:x<4294967296:=hx1;have hv:u64.wrap (((BitVec.ofInt u64.bits 0 ||| BitVec.ofInt u64.bits (u64.wrap (u64.wrap (x:Int)*2^(32*0)))).toNat:Nat):Int)=((x%18446744073709551616:Nat):Int):=by
        rw[Nat.mul_zero,Int.pow_zero,Int.mul_one,aY (x:Int),eD (by omega),aY (x:Int),eD (by omega)];have:=mK (a:=0) (b:=x) (by decide) (by omega);have h2:(BitVec.ofInt u64.bits 0 ||| BitVec.ofInt u64.bits (x:Int)).toNat=0 ||| x:=this
        rw[h2,Nat.zero_or,aY];omega
      rw[hv];exact fin _ 1
    · have e1 := fL h1
      rw[e1]at e0;have hm2:=abz (x / W) iJ;have hl:2<=(aT x).length:=by rw[e0];simp
      have hmin:(if (2:Int)<((aT x).length:Int) then(2:Int) else((aT x).length:Int))=2:=by split<;>omega
      rw[hmin];have a1:=s1 2 0 (by decide) (by decide) (x%W) (by rw[e0];rfl);refine Eq.trans a1 ?_;have a2:=step (u64.wrap (((BitVec.ofInt u64.bits 0 ||| BitVec.ofInt u64.bits (u64.wrap (u64.wrap ((x%W:Nat):Int)*2^(32*0)))).toNat:Nat):Int)) 2 1 (by decide) (by decide) (x / W%W) (by rw[e0];rfl);refine Eq.trans a2 ?_;have k1:x%W<4294967296:=hm;have k2:x / W%W<4294967296:=hm2;have hv:u64.wrap (((BitVec.ofInt u64.bits 0 ||| BitVec.ofInt u64.bits (u64.wrap (u64.wrap ((x%W:Nat):Int)*2^(32*0)))).toNat:Nat):Int)=((x%W:Nat):Int):=by
        rw[Nat.mul_zero,Int.pow_zero,Int.mul_one,aY ((x%W:Nat):Int),eD (by omega),aY ((x%W:Nat):Int),eD (by omega)];have:=mK (a:=0) (b:=x%W) (by decide) (by omega);have h2:(BitVec.ofInt u64.bits 0 ||| BitVec.ofInt u64.bits ((x%W:Nat):Int)).toNat=0 ||| x%W:=this
        rw[h2,Nat.zero_or,aY,eD (by omega)]
      rw[hv];have hv2:u64.wrap (((BitVec.ofInt u64.bits ((x%W:Nat):Int) ||| BitVec.ofInt u64.bits (u64.wrap (u64.wrap ((x / W%W:Nat):Int)*2^(32*1)))).toNat:Nat):Int)=((x%18446744073709551616:Nat):Int):=by
        have hmul:x / W%W*2^32<18446744073709551616:=by have:x / W%W*2^32<=4294967295*2^32:=abH _ (by omega);omega
        have hc:((x / W%W:Nat):Int)*2^(32*1)=((x / W%W*2^32:Nat):Int):=by simp
        rw[aY ((x / W%W:Nat):Int),eD (by omega),hc,aY (((x / W%W*2^32:Nat):Int)),eD hmul];have:=mK (a:=x%W) (b:=x / W%W*2^32) (by omega) hmul;rw[pU (k:=32) (by exact k1)]at this;have h2:(BitVec.ofInt u64.bits ((x%W:Nat):Int) ||| BitVec.ofInt u64.bits ((x / W%W*2^32:Nat):Int)).toNat=x%W+x / W%W*2^32:=this;rw[h2,aY];unfold W at *;omega
      rw[hv2];exact fin _ 2
theorem Aa(a:List Int)(ha:ep a)(hb:a.length<=1000000):∀n:Nat,n<=a.length->aW (a.take n)=aW a->
  rk prog qL (Gn (V.m 0 0 a.length) (n:Int) [aC (cellsOf a)])=some (.d (nl (aW a)),[aC (cellsOf a)])
 |0,hn,hv=>by
  rw[Dw];have h0:aW a=0:=by rw[<-hv];rfl
  have e:nl (aW a) = .l true []:=by rw[h0];exact oK bZ
  have hv0:=kj a 0 (by omega);simp[tZ,e,hv0,ints]
 |n+1,hn,hv=>by
  rw[Dw];have hx:n<a.length:=by omega
  have gx:=abl hx;have hp:(0:Int)<(n:Int)+1:=by omega
  have hw:i64.wrap (n:Int)=(n:Int):=bD;have hl:n+1<=4294967296:=by omega
  have hni:(n:Int)<(a.length:Int):=by omega
  by_cases h0:a[n]=0
  ·have ih:=Aa a ha hb n (by omega) (by rw[<-hv];exact(gg a n (by rw[gx,h0])).symm)
   simp[hp,hw,hni,dw,gx,h0,tZ,ih]
  ·have e:nl (aW a) = .l (a.take (n+1)).isEmpty (ints .u32 (a.take (n+1))):=by rw[<-hv];exact oK (jc ha hx h0)
   have hle:(n:Int)+1<=(a.length:Int):=by omega
   have hp2:(0:Int)<=(n:Int)+1:=by omega
   have ht:((n:Int)+1).toNat=n+1:=by omega
   have hl2:n+1<=a.length:=by omega
   have hv1:=kj a (n+1) hl2;simp[hp,hw,hni,dw,gx,h0,tZ,hle,hp2,ht,hv1,hl,e,iE,hl2]
theorem DK(a:List Int)(ha:ep a)(hb:a.length<=1000000):rk prog qL (.call 162 [V.m 0 0 a.length] [aC (cellsOf a)])=some (.d (nl (aW a)),[aC (cellsOf a)]):=by rw[a51];simp[Aa a ha hb a.length (aa4 _) (by rw[List.take_length])]
theorem vR(a:List Int)(o:Ob)(n:Nat)(h:n<=a.length):dK [aC (cellsOf a),o] 1 (V.m 1 0 n)=some (ints .u32 (a.take n)):=by simp only[dK,view,bV,aaT,abp,abv,if_true];rw[aaR (by rw[fk];omega)];simp only[List.drop_zero,cellsOf,<-List.map_take,nz,tP]
theorem Ac(a:List Int)(cs:List V)(ha:ep a)(hb:a.length<=1000000):∀n:Nat,n<=a.length->aW (a.take n)=aW a->
  rk prog qL (LW (V.m 1 0 a.length) (n:Int) [aC (cellsOf a),aC cs])=some (.d (nl (aW a)),[aC (cellsOf a),aC cs])
 |0,hn,hv=>by
  rw[wO];have h0:aW a=0:=by rw[<-hv];rfl
  have e:nl (aW a) = .l true []:=by rw[h0];exact oK bZ
  have hv0:=vR a (aC cs) 0 (by omega);simp[oX,e,hv0,ints]
 |n+1,hn,hv=>by
  rw[wO];have hx:n<a.length:=by omega
  have gx:=abl hx;have hp:(0:Int)<(n:Int)+1:=by omega
  have hw:i64.wrap (n:Int)=(n:Int):=bD;have hl:n+1<=4294967296:=by omega
  have hni:(n:Int)<(a.length:Int):=by omega
  by_cases h0:a[n]=0
  ·have ih:=Ac a cs ha hb n (by omega) (by rw[<-hv];exact(gg a n (by rw[gx,h0])).symm)
   simp[hp,hw,hni,dw,gx,h0,oX,ih]
  ·have e:nl (aW a) = .l (a.take (n+1)).isEmpty (ints .u32 (a.take (n+1))):=by rw[<-hv];exact oK (jc ha hx h0)
   have hle:(n:Int)+1<=(a.length:Int):=by omega
   have hp2:(0:Int)<=(n:Int)+1:=by omega
   have ht:((n:Int)+1).toNat=n+1:=by omega
   have hl2:n+1<=a.length:=by omega
   have hv1:=vR a (aC cs) (n+1) hl2;simp[hp,hw,hni,dw,gx,h0,oX,hle,hp2,ht,hv1,hl,e,iE,hl2]
theorem O9(a:List Int)(cs:List V)(ha:ep a)(hb:a.length<=1000000):rk prog qL (.call 162 [V.m 1 0 a.length] [aC (cellsOf a),aC cs])=some (.d (nl (aW a)),[aC (cellsOf a),aC cs]):=by rw[aaa];simp[Ac a cs ha hb a.length (aa4 _) (by rw[List.take_length])]
theorem z6(b_0 b_2:Bool)(cs ds:List V)(a c:List Int)(ha:ep a)(hc:ep c)(hb:a.length<=100000)(hac:a.length=c.length):∀i:Nat,i<=a.length->
  rk prog qL (Lk ((i:Int)-1) b_0 b_2 (ints .u32 a) (ints .u32 c) [aC ds,aC cs])=
   some (.d (.i .i64 (gB (aW (a.take i)) (aW (c.take i)))),[aC ds,aC cs])
 |0,hi=>by
  rw[Dx];simp[gB]
 |i+1,hi=>by
  rw[Dx];have ih:=z6 b_0 b_2 cs ds a c ha hc hb hac i (by omega);have hia:i<a.length:=by omega
  have hic:i<c.length:=by omega
  obtain⟨u,eu,hu⟩:=ha.get hia;obtain⟨v,ev,hv⟩:=hc.get hic;have ga:a[i]?=some (u:Int):=by rw[abl hia,eu]
  have gc:c[i]?=some (v:Int):=by rw[abl hic,ev]
  have pa:=qe (ha.take i);have pc:=qe (hc.take i);rw[List.length_take,Nat.min_eq_left (by omega)]at pa pc;have e0:(((i+1:Nat):Int)-1)=(i:Int):=by omega
  have h0:(i:Int) ≥ 0:=by omega
  have hw:i64.wrap ((i:Int)-1)=(i:Int)-1:=bD;rw[e0,nA a i hia,nA c i hic,eu,ev];simp only[abe];generalize aW (a.take i)=p at *;generalize aW (c.take i)=q at *;rcases Nat.lt_trichotomy u v with h|h|h
  ·have h1:(u:Int)<(v:Int):=by omega
   have h2:gB (p+W^i*u) (q+W^i*v) = -1:=by unfold gB;rw[aaR (lex_lt pa h)]
   simp[h0,ga,gc,h1,h2]
  ·subst h;have h2:gB (p+W^i*u) (q+W^i*u)=gB p q:=by
    unfold gB;congr 1
    ·exact propext (by omega)
    ·congr 1;exact propext (by omega)
   rw[h2];simp[h0,ga,gc,hw,ih]
  ·have h1:¬(u:Int)<(v:Int):=by omega
   have h1':(v:Int)<(u:Int):=by omega
   have h2:gB (p+W^i*u) (q+W^i*v)=1:=by have:=lex_lt (q:=p) pc h;unfold gB;rw[cE,aaR this]
   simp[h0,ga,gc,h1,h1',h2]
theorem wI{a:List Int}(ha:ep a):(aT (aW a)).length<=a.length:=AX (qe ha)
theorem O4(a c:List Int)(ha:ep a)(hc:ep c)(la:a.length<=100000)(lc:c.length<=100000):rk prog qL (.call 164 [V.m 0 0 a.length,V.m 1 0 c.length] [aC (cellsOf c),aC (cellsOf a)])=some (.d (.i .i64 (gB (aW a) (aW c))),[aC (cellsOf c),aC (cellsOf a)]):=by
 rw[a62];have c1:=DK a ha (by omega);have c2:=O9 c (cellsOf a) hc (by omega);rw[nj]at c1 c2;have lx:=wI ha;have ly:=wI hc;simp only[bK,c1,c2,Option.bind_some,jW,iI,lf,abq,bn,if_true,dN,iP,ed,bo,decide_eq_true_eq];generalize aW a=x at *;generalize aW c=y at *;by_cases h1:(aT x).length<(aT y).length
 ·have:=xM h1;rw[aaR (by omega),gB,aaR this];rfl
 ·by_cases h2:(aT y).length<(aT x).length
  ·have:=xM h2;rw[cE,aaR (by omega),gB,cE,aaR this];rfl
  ·have h3:(aT x).length=(aT y).length:=by omega
   have:=z6 (nb x) (nb y) (cellsOf a) (cellsOf c) (aT x) (aT y) (cW x) (cW y) (by omega) h3 (aT x).length (aa4 _);rw[List.take_length,h3,List.take_length,cM,cM]at this;have hw:i64.wrap (((aT y).length:Int)-1)=((aT y).length:Int)-1:=bD;rw[cE,cE,h3,hw,ws,ws,this];rfl
theorem ue(b_0:Bool)(l_1:List D)(n_2:Int)(b_3:Bool):
  rk prog Fq (Oh n_2 b_0 b_3 l_1 [])=aD (rk prog Fq) (
aV b_3 (aR (Gm (i64.wrap (n_2-1)) b_0 l_1 []))
  (aO (decide (0<=n_2/\n_2<=(↑l_1.length:Int)))
    (aO (bA 1 l_1)
      (aO (bA 1 (List.take (n_2.toNat-0) (List.drop 0 l_1)))
        (aO (((List.take (n_2.toNat-0) (List.drop 0 l_1)).map V.d).all V.one)
         (aO (decide ((List.take (n_2.toNat-0) (List.drop 0 l_1)).length<=4294967296))
          (ob (zJ 0 (V.m 0 0 (List.take (n_2.toNat-0) (List.drop 0 l_1)).length) [aC (List.map V.d (List.take (n_2.toNat-0) (List.drop 0 l_1)))]) Tr.ret))))))):=
  QZ (by kernel_rfl)
theorem yl(a:List Int):bI 0 (cellsOf a)=true:=by refine dQ.2 λ c hc=>?_;simp only[cellsOf,ints,List.map_map,List.mem_map]at hc;obtain⟨z,_,rfl⟩:=hc;rfl
theorem Nl(a:List Int):(cellsOf a).all V.one=true:=by rw[abu];intro c hc;simp only[cellsOf,ints,List.map_map,List.mem_map]at hc;obtain⟨z,_,rfl⟩:=hc;rfl
theorem A9(a:List Int)(n:Nat):zJ 0 (V.m 0 0 n) [aC (cellsOf a)]=some (.m 0 0 n,[aC (cellsOf a)]):=by simp[zJ,bV,yl,nP]
theorem Ab(b:Bool)(a:List Int)(ha:ep a)(hb:a.length<=1000000):∀n:Nat,n<=a.length->aW (a.take n)=aW a->
  rk prog Fq (Gm (n:Int) b (ints .u32 a) [])=some (.m 0 0 (aT (aW a)).length,[aC (cellsOf (aT (aW a)))])
 |0,hn,hv=>by
  rw[DE];have h0:aW a=0:=by rw[<-hv];rfl
  have ho:zJ 0 (V.m 0 0 0) [aC []]=some (.m 0 0 0,[aC []]):=A9 [] 0;have hc0:cellsOf []=[]:=rfl;simp[ue,h0,bZ,hc0,ho]
 |n+1,hn,hv=>by
  rw[DE];have hx:n<a.length:=by omega
  have gx:=abl hx;have hp:(0:Int)<(n:Int)+1:=by omega
  have hw:i64.wrap (n:Int)=(n:Int):=bD;by_cases h0:a[n]=0
  ·have ih:=Ab b a ha hb n (by omega) (by rw[<-hv];exact(gg a n (by rw[gx,h0])).symm)
   simp[hp,hw,gx,h0,ue,ih]
  ·have e:aT (aW a)=a.take (n+1):=by rw[<-hv];exact jc ha hx h0
   have hle:((0:Int)<=(n:Int)+1/\(n:Int)+1<=((ints .u32 a).length:Nat)):=by rw[cL];omega
   have ht:((n:Int)+1).toNat=n+1:=by omega
   have e1:List.take ((n+1)-0) (List.drop 0 (ints .u32 a))=ints .u32 (a.take (n+1)):=by simp[nz]
   have e2:(ints .u32 (a.take (n+1))).map V.d=cellsOf (a.take (n+1)):=rfl;have hl:(a.take (n+1)).length<=4294967296:=by rw[List.length_take];omega
   have hl2:(ints .u32 (a.take (n+1))).length=(a.take (n+1)).length:=by rw[cL]
   rw[e];have hb0:((a[n]:Int)==0)=false:=abr.2 h0;have hpd:((n+1:Nat):Int)>0:=by omega
   have hn1:((n+1:Nat):Int)=(n:Int)+1:=by omega
   have hwi:i64.wrap (((n+1:Nat):Int)-1)=(n:Int):=bD;simp only[bo,aa3 hpd,if_true,hwi,cQ,ct,eW,gx,Option.map_some,Option.bind_some,lg,abq,bn,abe,kZ,List.getElem?_cons_zero,bO,hb0,aA];rw[ue,hn1,ht,e1,e2];simp only[bo,Bool.false_eq_true,if_false,bn,aa3 hle,fw,if_true,Nl,aa3 hl,cQ,hl2,A9,Option.bind_some,aG]
theorem O8(b:Bool)(a:List Int)(ha:ep a)(hb:a.length<=1000000):rk prog Fq (.call 162 [vl b (ints .u32 a)] [])=some (.m 0 0 (aT (aW a)).length,[aC (cellsOf (aT (aW a)))]):=by rw[c51];simp[Ab b a ha hb a.length (aa4 _) (by rw[List.take_length])]
theorem Mn(x y:Nat):decide (gB x y<0)=decide (x<y):=by
 unfold gB;by_cases h:x<y
 ·simp[h]
 ·by_cases h2:y<x<;>simp[h,h2]
theorem ui{k:Nat}{g:List V->List Ob->Option Out}(h:oT.ext k=some g)(args:List V)(S:List Ob):rk prog oT (.call k args S)=g args S:=by rw[Bp];simp only[oN,h,cQ];cases g args S<;>simp
theorem Df(a:List Int):lU .u32 (ints .u32 a)=some a:=by
 induction a with
 |nil=>rfl
 |cons z a ih=>rw[AQ,lU,aaR rfl,ih];rfl
theorem ra(a:List Int):iX (cellsOf a)=some a:=by
 induction a with
 |nil=>rfl
 |cons z a ih=>
  show iX (V.d (.i .u32 z)::cellsOf a)=_;rw[iX,ih];rfl
theorem UI{a:List Int}(h:ep a)(hl:a.length<=100000):Wd a=true:=by
 have:(a.all λ z=>decide (0<=z)&&decide (z<4294967296))=true:=by rw[abu];intro z hz;have:=h z hz;simp[this.1,this.2]
 simp only[Wd,this,Bool.true_and];exact aa3 hl
theorem Pb(b:Bool)(a:List Int)(ha:ep a)(hl:a.length<=100000):rk prog oT (.call 162 [vl b (ints .u32 a)] [])=some (.m 0 0 (aT (aW a)).length,[aC (cellsOf (aT (aW a)))]):=by rw[ui (g:=nN) rfl];simp only[nN,Df];rw[aaR (UI ha hl)];simp[G3,cellsOf,ints]
theorem W3(a:List Int)(ha:ep a)(hl:a.length<=100000):rk prog oT (.call 162 [V.m 0 0 a.length] [aC (cellsOf a)])=some (.d (nl (aW a)),[aC (cellsOf a)]):=by rw[ui (g:=nN) rfl];simp only[nN,ra];rw[aaR ⟨trivial,UI ha hl⟩]
theorem W1(a c:List Int)(ha:ep a)(hc:ep c)(hl:a.length<=100000)(hlc:c.length<=100000):rk prog oT (.call 164 [V.m 0 0 a.length,V.m 1 0 c.length] [aC (cellsOf c),aC (cellsOf a)])=some (.d (.i .i64 (gB (aW a) (aW c))),[aC (cellsOf c),aC (cellsOf a)]):=by rw[ui (g:=sr) rfl];simp only[sr,ra];rw[aaR ⟨trivial,trivial,UI ha hl,UI hc hlc⟩];rfl
theorem U2(out:List Int)(x d:Int)(r:List Int):(out++x::r).set out.length d=out++d::r:=by rw[List.set_append_right _ _ (aa4 _),Nat.sub_self];rfl
theorem F5(X Y A:List Int)(i b:Nat)(n:Nat)(hi:i<X.length)(hX:X.length<=100000)(T H:Nat)(b':Nat)(R:Option Out)(hA:A.length=X.length)(hTH:T<=H)(hHT:H-T<4294967296)(hH:H<18446744073709551616)
  (h:rk prog oT (.at_ 218 0 (aJ 175) (sq5 (V.m 0 0 X.length) (V.m 1 0 Y.length) (b':Int) (n:Int) ((i+1:Nat):Int)) []
    [aC (cellsOf Y),aC (cellsOf (A.set i ((H-T:Nat):Int)))])=R):
  rk prog oT (.at_ 218 0 (aJ 521007)
 (sv 55 [(0,V.m 0 0 X.length),(1,V.m 1 0 Y.length),(6,vu (b':Int)),(7,vi (i:Int)),(8,vu (T:Int)),(9,vu (H:Int)),(19,vi (n:Int)),(20,vi (i:Int))])
 [] [aC (cellsOf Y),aC (cellsOf A)])=R:=by
 rw[C2];have hb1:(0:Int)<=(i:Int)/\(i:Int)<((X.length:Nat):Int):=by omega
 have hb2:i<(cellsOf A).length:=by rw[fk];omega
 have hw1:u64.wrap ((H:Int)-(T:Int))=((H-T:Nat):Int):=by rw[aY];omega
 have hw2:u32.wrap ((H-T:Nat):Int)=((H-T:Nat):Int):=by rw[dt];omega
 have hw3:=ca i;simp only[bn,aa3 hb1,if_true,abe,aa3 hb2,Bool.and_true,hw1,hw2,hw3,abv,iB,aA,h]
theorem U7(X Y A:List Int)(i:Nat)(n:Nat)(hi:i<X.length)(hX:X.length<=100000)(T x:Nat)(hx:x<4294967296)(hT:T<=4294967296)(R:Option Out)(hA:A.length=X.length)(hg:A[i]?=some (x:Int))
  (h:rk prog oT (.at_ 218 0 (aJ 175) (sq5 (V.m 0 0 X.length) (V.m 1 0 Y.length) ((if x<T then 1 else 0:Nat):Int) (n:Int) ((i+1:Nat):Int)) []
    [aC (cellsOf Y),aC (cellsOf (A.set i (((x+W*(if x<T then 1 else 0)-T:Nat)):Int)))])=R):
  rk prog oT (.at_ 218 0 (aJ 62255)
 (sv 55 [(0,V.m 0 0 X.length),(1,V.m 1 0 Y.length),(7,vi (i:Int)),(8,vu (T:Int)),(19,vi (n:Int)),(20,vi (i:Int))]) []
 [aC (cellsOf Y),aC (cellsOf A)])=R:=by
 rw[FU];have hb1:(0:Int)<=(i:Int)/\(i:Int)<((X.length:Nat):Int):=by omega
 have hw1:u64.wrap (x:Int)=(x:Int):=by rw[aY];omega
 have hw2:u64.wrap ((x:Int)+4294967296)=((x+4294967296:Nat):Int):=by rw[aY];omega
 simp only[bn,aa3 hb1,if_true,abe,abv,dw,hg,Option.map_some,cQ,Option.bind_some,dN,bO,hw1,hw2,bo,decide_eq_true_eq];by_cases hlt:x<T
 ·have hlt':(x:Int)<(T:Int):=by omega
  rw[aaR hlt',aA];simp only[aaR hlt,Nat.mul_one]at h;have e:x+W=x+4294967296:=rfl;rw[e]at h;exact F5 X Y A i 0 n hi hX T (x+4294967296) 1 R hA (by omega) (by omega) (by omega) h
 ·have hlt':¬(x:Int)<(T:Int):=by omega
  rw[aaN hlt',aA];simp only[aaN hlt,Nat.mul_zero,Nat.add_zero]at h;exact F5 X Y A i 0 n hi hX T x 0 R hA (by omega) (by omega) (by omega) h
theorem Rr(X Y:List Int)(hX:ep X)(hY:ep Y)(lX:X.length<=100000)(lY:Y.length<=100000)(hYX:Y.length<=X.length)(hge:aW Y<=aW X):∀(d i:Nat) (out:List Int) (b:Nat),i+d=X.length->ep out->out.length=i->b<=1->aW out+aW (Y.take i)=aW (X.take i)+W^i*b->
  rk prog oT (.at_ 218 0 (aJ 175) (sq5 (V.m 0 0 X.length) (V.m 1 0 Y.length) (b:Int) (X.length:Int) (i:Int)) []
    [aC (cellsOf Y),aC (cellsOf (out++X.drop i))])=some (.t [.d (nl (aW X-aW Y)),.d (.b true)],[]):=by
 intro d
 induction d with
 |zero=>
  intro i out b hi hu hl hb hv;rw[Bw];have hd:X.drop i=[]:=abJ (by omega);have hol:X.length=out.length:=by omega
  have h3:¬((i:Int)<((out.length:Nat):Int)):=by omega
  rw[hd,abo];rw[abS (show Y.length<=i by omega),abS (show X.length<=i by omega)]at hv;have hlt:=qe hu;rw[hl]at hlt;have hb0:b=0:=by
   rcases(show b=0\/b=1 by omega)with h|h
   ·exact h
   ·rw[h,Nat.mul_one]at hv;omega
  have hvo:aW out=aW X-aW Y:=by rw[hb0,Nat.mul_zero]at hv;omega
  have hcm:=W3 out hu (by omega);rw[hvo,nj]at hcm;simp only[bo,abf h3,Bool.false_eq_true,if_false,hol,bK,hcm,Option.bind_some,jW,iI,lf,abq,bn,if_true,dN,iP,aG];rfl
 |succ d ih=>
  intro i out b hi hu hl hb hv;have hiX:i<X.length:=by omega
  have h3:(i:Int)<((X.length:Nat):Int):=by omega
  obtain⟨x,ex,hx⟩:=hX.get hiX;have hdr:X.drop i=(x:Int)::X.drop (i+1):=by rw[List.drop_eq_getElem_cons hiX,ex]
  have hg:(out++X.drop i)[i]?=some (x:Int):=by rw[hdr,<-hl];simp
  have hAl:(out++X.drop i).length=X.length:=by rw[aaS,abB];omega
  have fin:∀T y:Nat,T=b+y->y<4294967296->aW (Y.take (i+1))=aW (Y.take i)+W^i*y->
    rk prog oT (.at_ 218 0 (aJ 62255)
 (sv 55 [(0,V.m 0 0 X.length),(1,V.m 1 0 Y.length),(7,vi (i:Int)),(8,vu (T:Int)),(19,vi (X.length:Int)),(20,vi (i:Int))]) []
 [aC (cellsOf Y),aC (cellsOf (out++X.drop i))])=some (.t [.d (nl (aW X-aW Y)),.d (.b true)],[]):=by
   intro T y hT hy hyv;refine U7 X Y _ i _ hiX lX T x hx (by omega) _ hAl hg ?_;have hset:(out++X.drop i).set i (((x+W*(if x<T then 1 else 0)-T:Nat)):Int)=(out++[((x+W*(if x<T then 1 else 0)-T:Nat):Int)])++X.drop (i+1):=by rw[hdr,<-hl,U2];simp
   rw[hset];have hd1:x+W*(if x<T then 1 else 0)-T<4294967296:=by unfold W;split<;>omega
   have hd2:x+W*(if x<T then 1 else 0)-T+T=x+W*(if x<T then 1 else 0):=by unfold W;split<;>omega
   refine ih (i+1) _ (if x<T then 1 else 0) (by omega) (hu.snoc hd1) (by simp[hl]) (by split<;>omega) ?_;generalize x+W*(if x<T then 1 else 0)-T=dd at hd2;rw[eF,hl,nA X i hiX,ex,hyv];simp only[aW,abe,Nat.mul_zero,Nat.add_zero];rw[abx];have e1:W^i*dd+W^i*T=W^i*x+W^i*(W*(if x<T then 1 else 0)):=by rw[<-abA,hd2,abA]
   rw[hT,abA]at e1;rw[<-hT]at e1;rw[abm];omega
  rw[Bw];by_cases hiY:i<Y.length
  ·have h4:(i:Int)<((Y.length:Nat):Int):=by omega
   obtain⟨y,ey,hy⟩:=hY.get hiY;have gy:Y[i]?=some (y:Int):=by rw[abl hiY,ey]
   have hb1:(0:Int)<=(i:Int)/\(i:Int)<((Y.length:Nat):Int):=by omega
   have hw:u64.wrap ((b:Int)+u64.wrap (y:Int))=((b+y:Nat):Int):=by rw[aY (y:Int),aY];omega
   simp only[bo,aa3 h3,aa3 h4,if_true,bn,aa3 hb1,abe,abv,dw,gy,Option.map_some,cQ,Option.bind_some,dN,bO,hw,aA];exact fin (b+y) y rfl hy (by rw[nA Y i hiY,ey,abe])
  ·have h4:¬(i:Int)<((Y.length:Nat):Int):=by omega
   simp only[bo,aa3 h3,abf h4,if_true,Bool.false_eq_true,if_false,aA];exact fin b 0 rfl (by decide) (by rw[abS (by omega),abS (by omega)];simp)
theorem U8(b c:Bool)(a e:List Int)(ha:ep a)(he:ep e)(la:a.length<=100000)(le:e.length<=100000):rk prog oT (.call 218 [vl b (ints .u32 a),vl c (ints .u32 e)] [])=some (NT (aW a) (aW e),[]):=by
 rw[s81];have lx:=wI ha;have ly:=wI he;have c1:=Pb b a ha la;have c2:=Pb c e he le;have c3:=W1 (aT (aW a)) (aT (aW e)) (cW _) (cW _) (by omega) (by omega);rw[cM,cM]at c3;simp only[bK,c1,Option.bind_some,HK,yl,if_true,c2,c3,jW,iI,lf,abq,bn,dN,bO,bo,Mn];unfold NT;by_cases h:aW a<aW e
 ·rw[aaR (by simpa using h),aaR h];rfl
 ·rw[aaN (by simpa using h),aaN h]
  have hll:(aT (aW e)).length<=(aT (aW a)).length:=by
   rcases abn (aT (aW a)).length (aT (aW e)).length with h' | h'
   ·exact absurd (xM h') h
   ·exact h'
  have:=Rr (aT (aW a)) (aT (aW e)) (cW _) (cW _) (by omega) (by omega) hll (by rw[cM,cM];omega) (aT (aW a)).length 0 [] 0 (by omega) ep.nil rfl (by decide) (by simp[aW]);rw[cM,cM,List.nil_append,List.drop_zero,Int.natCast_zero]at this;rw[this];rfl
end Go.Dn.Dec
namespace Go.Proofs
open Go.IntKind (i64 u64 u8 u16 i32 u32)
open Go.Shelf
def Tryz.lays161_ren:Go.Shelf.Ren:=⟨λ|161=>183|231=>209|227=>171|233=>210|235=>211|228=>200|197=>220|151=>202|260=>229|152=>221|137=>85|119=>230|224=>205|225=>204|217=>135|266=>180|n=>n,λ|9=>9|4=>4|3=>3|5=>5|117=>194|116=>193|0=>0|124=>197|105=>218|21=>21|119=>242|46=>144|139=>245|138=>244|n=>n,λ|3=>6|4=>7|n=>n⟩
def Tryz.lays162_ren:Go.Shelf.Ren:=⟨λ|162=>117|232=>170|227=>171|234=>172|236=>173|228=>200|271=>201|151=>202|120=>219|197=>220|152=>221|260=>229|137=>85|119=>230|224=>205|225=>204|217=>135|266=>180|n=>n,λ|9=>9|4=>4|3=>3|5=>5|117=>194|116=>193|0=>0|124=>197|21=>21|105=>218|46=>144|119=>242|139=>245|138=>244|n=>n,λ|3=>6|4=>7|n=>n⟩
theorem Tryz.lays162:Go.Proofs.Lays.n162 prog Tryz.lays162_ren:={
 mixed:=by kernel_rfl
 f119:=cc Tryz.func230
 f120:=cc Tryz.func219
 f137:=cc Tryz.func85
 f151:=cc Tryz.func202
 f152:=cc Tryz.func221
 f162:=cc Tryz.func117
 f197:=cc Tryz.func220
 f217:=cc Tryz.func135
 f224:=cc Tryz.func205
 f225:=cc Tryz.func204
 f227:=cc Tryz.func171
 f228:=cc Tryz.func200
 f232:=cc Tryz.func170
 f234:=cc Tryz.func172
 f236:=cc Tryz.func173
 f260:=cc Tryz.func229
 f266:=cc Tryz.func180
 f271:=cc Tryz.func201
 t0:=Tryz.underlying0
 a0:=Tryz.isAgg0
 z0:=Tryz.sizeOf0
 v0:=Tryz.zeroValue0
 t3:=Tryz.underlying3
 a3:=Tryz.isAgg3
 z3:=Tryz.sizeOf3
 v3:=Tryz.zeroValue3
 t4:=Tryz.underlying4
 a4:=Tryz.isAgg4
 z4:=Tryz.sizeOf4
 v4:=Tryz.zeroValue4
 t5:=Tryz.underlying5
 a5:=Tryz.isAgg5
 z5:=Tryz.sizeOf5
 v5:=Tryz.zeroValue5
 t9:=Tryz.underlying9
 a9:=Tryz.isAgg9
 z9:=Tryz.sizeOf9
 v9:=Tryz.zeroValue9
 t21:=Tryz.underlying21
 a21:=Tryz.isAgg21
 z21:=Tryz.sizeOf21
 v21:=Tryz.zeroValue21
 t46:=Tryz.underlying144
 a46:=Tryz.isAgg144
 z46:=Tryz.sizeOf144
 v46:=Tryz.zeroValue144
 t105:=Tryz.underlying218
 a105:=Tryz.isAgg218
 z105:=Tryz.sizeOf218
 v105:=Tryz.zeroValue218
 t116:=Tryz.underlying193
 a116:=Tryz.isAgg193
 z116:=Tryz.sizeOf193
 t117:=Tryz.underlying194
 a117:=Tryz.isAgg194
 z117:=Tryz.sizeOf194
 v117:=Tryz.zeroValue194
 t119:=Tryz.underlying242
 a119:=Tryz.isAgg242
 z119:=Tryz.sizeOf242
 t124:=Tryz.underlying197
 a124:=Tryz.isAgg197
 z124:=Tryz.sizeOf197
 v124:=Tryz.zeroValue197
 t138:=Tryz.underlying244
 a138:=Tryz.isAgg244
 z138:=Tryz.sizeOf244
 v138:=Tryz.zeroValue244
 t139:=Tryz.underlying245
 a139:=Tryz.isAgg245
 z139:=Tryz.sizeOf245
 v139:=Tryz.zeroValue245
 g3:=by kernel_rfl
 g4:=by kernel_rfl }
open Go.RowKit in
theorem Tryz.strings_TrimRight_one(s:ByteArray)(c:UInt8)(hc:c.toNat<128)(w:World)(hs:s.size<=9223372036854775807):
  Calls prog 117 #[.string s,.string ⟨#[c]⟩] w λ e w'=>e = .returned (.string ⟨(Lib.trimRightB s.data.toList c).toArray⟩)/\w'=w:=Any.strings_TrimRight_one Tryz.lays162 s c hc w hs
def Tryz.lays128_ren:Go.Shelf.Ren:=⟨λ|128=>163|n=>n,λ|51=>147|3=>3|4=>4|46=>144|5=>5|9=>9|n=>n,λ|n=>n⟩
theorem Tryz.lays128:Go.Proofs.Lays.n128 prog Tryz.lays128_ren:={
 mixed:=by kernel_rfl
 f128:=cc Tryz.func163
 t3:=Tryz.underlying3
 a3:=Tryz.isAgg3
 z3:=Tryz.sizeOf3
 v3:=Tryz.zeroValue3
 t4:=Tryz.underlying4
 a4:=Tryz.isAgg4
 z4:=Tryz.sizeOf4
 v4:=Tryz.zeroValue4
 t5:=Tryz.underlying5
 a5:=Tryz.isAgg5
 z5:=Tryz.sizeOf5
 v5:=Tryz.zeroValue5
 t9:=Tryz.underlying9
 a9:=Tryz.isAgg9
 z9:=Tryz.sizeOf9
 v9:=Tryz.zeroValue9
 t46:=Tryz.underlying144
 a46:=Tryz.isAgg144
 z46:=Tryz.sizeOf144
 v46:=Tryz.zeroValue144
 t51:=Tryz.underlying147
 a51:=Tryz.isAgg147
 z51:=Tryz.sizeOf147
 v51:=Tryz.zeroValue147 }
theorem Tryz.bits_Len32(x:Int)(w:World)(h0:0<=x)(h1:x<=4294967295):
  Calls prog 163 #[.int .u32 x] w λ e w'=>e = .returned (.int .i64 (Lib.bitLen x.toNat))/\w'=w:=Any.bits_Len32 Tryz.lays128 x w h0 h1
def Tryz.lays283_ren:Go.Shelf.Ren:=⟨λ|283=>156|n=>n,λ|3=>3|9=>9|4=>4|n=>n,λ|n=>n⟩
theorem Tryz.lays283:Go.Proofs.Lays.n283 prog Tryz.lays283_ren:={
 mixed:=by kernel_rfl
 f283:=cc Tryz.func156
 t3:=Tryz.underlying3
 a3:=Tryz.isAgg3
 z3:=Tryz.sizeOf3
 v3:=Tryz.zeroValue3
 t4:=Tryz.underlying4
 a4:=Tryz.isAgg4
 z4:=Tryz.sizeOf4
 v4:=Tryz.zeroValue4
 t9:=Tryz.underlying9
 a9:=Tryz.isAgg9
 z9:=Tryz.sizeOf9
 v9:=Tryz.zeroValue9 }
open Go.Lib in
theorem Tryz.internal_strconv_small(i:Nat)(h:i<100)(w:World):
  Calls prog 156 #[.int .i64 i] w λ e w'=>e = .returned (.string ⟨(Lib.decDigits i).toArray⟩)/\w'=w:=Any.internal_strconv_small Tryz.lays283 i h w
def Tryz.laysM284_ren:Go.Shelf.Ren:=⟨λ|284=>157|129=>191|317=>190|318=>192|n=>n,λ|53=>49|3=>3|212=>214|0=>0|4=>4|46=>144|5=>5|9=>9|n=>n,λ|17=>0|n=>n⟩
theorem Tryz.laysM284:Go.Proofs.LaysM.n284 prog Tryz.laysM284_ren:={
 mixed:=by kernel_rfl
 f129:=cc Tryz.func191
 f284:=cc Tryz.func157
 f317:=cc Tryz.func190
 f318:=cc Tryz.func192
 t0:=Tryz.underlying0
 a0:=Tryz.isAgg0
 z0:=Tryz.sizeOf0
 v0:=Tryz.zeroValue0
 t3:=Tryz.underlying3
 a3:=Tryz.isAgg3
 z3:=Tryz.sizeOf3
 v3:=Tryz.zeroValue3
 t4:=Tryz.underlying4
 a4:=Tryz.isAgg4
 z4:=Tryz.sizeOf4
 v4:=Tryz.zeroValue4
 t5:=Tryz.underlying5
 a5:=Tryz.isAgg5
 z5:=Tryz.sizeOf5
 v5:=Tryz.zeroValue5
 t9:=Tryz.underlying9
 a9:=Tryz.isAgg9
 z9:=Tryz.sizeOf9
 v9:=Tryz.zeroValue9
 t46:=Tryz.underlying144
 a46:=Tryz.isAgg144
 z46:=Tryz.sizeOf144
 v46:=Tryz.zeroValue144
 t53:=Tryz.underlying49
 a53:=Tryz.isAgg49
 z53:=Tryz.sizeOf49
 v53:=Tryz.zeroValue49
 t212:=Tryz.underlying214
 a212:=Tryz.isAgg214
 z212:=Tryz.sizeOf214
 v212:=Tryz.zeroValue214
 g17:=by kernel_rfl
 i0:=by kernel_rfl
 i3:=by kernel_rfl
 i4:=by kernel_rfl
 i5:=by kernel_rfl
 i9:=by kernel_rfl
 i46:=by kernel_rfl
 i53:=by kernel_rfl
 i212:=by kernel_rfl
 m17:=by kernel_rfl }
open Go.Lib in
theorem Tryz.internal_strconv_numDigits (u : Nat) (h1 : 1 ≤ u) (h2 : u < 18446744073709551616) (w : World) (htab : Lib.TabIs prog w "internal/strconv.uint64pow10" .u64 Lib.pow10Tab) :
  Calls prog 157 #[.int .u64 u] w λ e w'=>e = .returned (.int .i64 (Lib.nDigits u))/\w'=w:=Any.internal_strconv_numDigits Tryz.laysM284 u h1 h2 w htab
def Tryz.lays285_ren:Go.Shelf.Ren:=⟨λ|285=>158|n=>n,λ|37=>22|53=>49|3=>3|4=>4|51=>147|9=>9|5=>5|0=>0|n=>n,λ|n=>n⟩
theorem Tryz.lays285:Go.Proofs.Lays.n285 prog Tryz.lays285_ren:={
 mixed:=by kernel_rfl
 f285:=cc Tryz.func158
 t0:=Tryz.underlying0
 a0:=Tryz.isAgg0
 z0:=Tryz.sizeOf0
 v0:=Tryz.zeroValue0
 t3:=Tryz.underlying3
 a3:=Tryz.isAgg3
 z3:=Tryz.sizeOf3
 v3:=Tryz.zeroValue3
 t4:=Tryz.underlying4
 a4:=Tryz.isAgg4
 z4:=Tryz.sizeOf4
 v4:=Tryz.zeroValue4
 t5:=Tryz.underlying5
 a5:=Tryz.isAgg5
 z5:=Tryz.sizeOf5
 v5:=Tryz.zeroValue5
 t9:=Tryz.underlying9
 a9:=Tryz.isAgg9
 z9:=Tryz.sizeOf9
 v9:=Tryz.zeroValue9
 t37:=Tryz.underlying22
 a37:=Tryz.isAgg22
 z37:=Tryz.sizeOf22
 v37:=Tryz.zeroValue22
 t51:=Tryz.underlying147
 a51:=Tryz.isAgg147
 z51:=Tryz.sizeOf147
 v51:=Tryz.zeroValue147
 t53:=Tryz.underlying49
 a53:=Tryz.isAgg49
 z53:=Tryz.sizeOf49
 v53:=Tryz.zeroValue49 }
open Go.RowKit Go.Sort Go.Lib in
theorem Tryz.internal_strconv_formatBase10(blk off cap:Nat)(u:Nat)(d:Array UInt8)(w:World)(hH:Holds (λ (b:UInt8)=>Value.int .u8 (b.toNat:Int)) w blk off d)(hu:u<10^d.size)(hu64:u<18446744073709551616)(hsz:d.size<4611686018427387904):
  Calls prog 158 #[.slice (some ⟨blk,off,none⟩) d.size cap,.int .u64 u] w λ e w'=>
   e = .returned (.tuple #[])/\∃(n v':Nat) (dk:Array UInt8),w'=(putRow (λ (b:UInt8)=>Value.int .u8 (b.toNat:Int)) w blk off dk).drewN n/\FmtInv d.size u 0 v' dk:=Any.internal_strconv_formatBase10 Tryz.lays285 blk off cap u d w hH hu hu64 hsz
def Tryz.laysM171_ren:Go.Shelf.Ren:=⟨λ|171=>118|243=>174|246=>111|283=>156|284=>157|285=>158|286=>159|129=>191|317=>190|318=>192|319=>193|320=>194|337=>216|338=>217|n=>n,λ|3=>3|9=>9|2=>2|4=>4|171=>184|0=>0|53=>49|37=>22|5=>5|173=>187|212=>214|51=>147|20=>20|213=>215|46=>144|232=>236|233=>237|n=>n,λ|17=>0|18=>2|19=>3|n=>n⟩
theorem Tryz.laysM171:Go.Proofs.LaysM.n171 prog Tryz.laysM171_ren:={
 mixed:=by kernel_rfl
 f129:=cc Tryz.func191
 f171:=cc Tryz.func118
 f243:=cc Tryz.func174
 f246:=cc Tryz.func111
 f283:=cc Tryz.func156
 f284:=cc Tryz.func157
 f285:=cc Tryz.func158
 f286:=cc Tryz.func159
 f317:=cc Tryz.func190
 f318:=cc Tryz.func192
 f319:=cc Tryz.func193
 f320:=cc Tryz.func194
 f337:=cc Tryz.func216
 f338:=cc Tryz.func217
 t0:=Tryz.underlying0
 a0:=Tryz.isAgg0
 z0:=Tryz.sizeOf0
 v0:=Tryz.zeroValue0
 t2:=Tryz.underlying2
 a2:=Tryz.isAgg2
 z2:=Tryz.sizeOf2
 v2:=Tryz.zeroValue2
 t3:=Tryz.underlying3
 a3:=Tryz.isAgg3
 z3:=Tryz.sizeOf3
 v3:=Tryz.zeroValue3
 t4:=Tryz.underlying4
 a4:=Tryz.isAgg4
 z4:=Tryz.sizeOf4
 v4:=Tryz.zeroValue4
 t5:=Tryz.underlying5
 a5:=Tryz.isAgg5
 z5:=Tryz.sizeOf5
 v5:=Tryz.zeroValue5
 t9:=Tryz.underlying9
 a9:=Tryz.isAgg9
 z9:=Tryz.sizeOf9
 v9:=Tryz.zeroValue9
 t20:=Tryz.underlying20
 a20:=Tryz.isAgg20
 z20:=Tryz.sizeOf20
 v20:=Tryz.zeroValue20
 t37:=Tryz.underlying22
 a37:=Tryz.isAgg22
 z37:=Tryz.sizeOf22
 v37:=Tryz.zeroValue22
 t46:=Tryz.underlying144
 a46:=Tryz.isAgg144
 z46:=Tryz.sizeOf144
 v46:=Tryz.zeroValue144
 t51:=Tryz.underlying147
 a51:=Tryz.isAgg147
 z51:=Tryz.sizeOf147
 v51:=Tryz.zeroValue147
 t53:=Tryz.underlying49
 a53:=Tryz.isAgg49
 z53:=Tryz.sizeOf49
 v53:=Tryz.zeroValue49
 t171:=Tryz.underlying184
 a171:=Tryz.isAgg184
 z171:=Tryz.sizeOf184
 v171:=Tryz.zeroValue184
 t173:=Tryz.underlying187
 a173:=Tryz.isAgg187
 z173:=Tryz.sizeOf187
 v173:=Tryz.zeroValue187
 t212:=Tryz.underlying214
 a212:=Tryz.isAgg214
 z212:=Tryz.sizeOf214
 v212:=Tryz.zeroValue214
 t213:=Tryz.underlying215
 a213:=Tryz.isAgg215
 z213:=Tryz.sizeOf215
 t232:=Tryz.underlying236
 a232:=Tryz.isAgg236
 z232:=Tryz.sizeOf236
 v232:=Tryz.zeroValue236
 t233:=Tryz.underlying237
 a233:=Tryz.isAgg237
 z233:=Tryz.sizeOf237
 v233:=Tryz.zeroValue237
 g17:=by kernel_rfl
 g18:=by kernel_rfl
 g19:=by kernel_rfl
 i0:=by kernel_rfl
 i2:=by kernel_rfl
 i3:=by kernel_rfl
 i4:=by kernel_rfl
 i5:=by kernel_rfl
 i9:=by kernel_rfl
 i20:=by kernel_rfl
 i37:=by kernel_rfl
 i46:=by kernel_rfl
 i51:=by kernel_rfl
 i53:=by kernel_rfl
 i171:=by kernel_rfl
 i173:=by kernel_rfl
 i212:=by kernel_rfl
 i232:=by kernel_rfl
 i233:=by kernel_rfl
 m17:=by kernel_rfl
 m18:=by kernel_rfl
 m19:=by kernel_rfl }
open Go.RowKit Go.Sort Go.Lib in
theorem Tryz.strconv_Itoa (n : Int) (h0 : -9223372036854775808 ≤ n) (h1 : n ≤ 9223372036854775807) (w : World) (htab : Lib.TabIs prog w "internal/strconv.uint64pow10" .u64 Lib.pow10Tab) :
  Calls prog 118 #[.int .i64 n] w λ e w'=>e = .returned (.string ⟨(Lib.itoa n).toArray⟩)/\∃k os,w'=grow (w.drewN k) os:=Any.strconv_Itoa Tryz.laysM171 n h0 h1 w htab
def Tryz.lays143_ren:Go.Shelf.Ren:=⟨λ|143=>123|219=>177|217=>135|225=>204|224=>205|267=>206|266=>180|314=>222|n=>n,λ|9=>9|3=>3|4=>4|5=>5|46=>144|146=>229|51=>147|n=>n,λ|1=>1|n=>n⟩
def Tryz.lays144_ren:Go.Shelf.Ren:=⟨λ|144=>57|143=>123|219=>177|217=>135|225=>204|224=>205|267=>206|266=>180|314=>222|n=>n,λ|9=>9|4=>4|3=>3|5=>5|46=>144|146=>229|51=>147|n=>n,λ|1=>1|n=>n⟩
theorem Tryz.lays144:Go.Proofs.Lays.n144 prog Tryz.lays144_ren:={
 mixed:=by kernel_rfl
 f143:=cc Tryz.func123
 f144:=cc Tryz.func57
 f217:=cc Tryz.func135
 f219:=cc Tryz.func177
 f224:=cc Tryz.func205
 f225:=cc Tryz.func204
 f266:=cc Tryz.func180
 f267:=cc Tryz.func206
 f314:=cc Tryz.func222
 t3:=Tryz.underlying3
 a3:=Tryz.isAgg3
 z3:=Tryz.sizeOf3
 v3:=Tryz.zeroValue3
 t4:=Tryz.underlying4
 a4:=Tryz.isAgg4
 z4:=Tryz.sizeOf4
 v4:=Tryz.zeroValue4
 t5:=Tryz.underlying5
 a5:=Tryz.isAgg5
 z5:=Tryz.sizeOf5
 v5:=Tryz.zeroValue5
 t9:=Tryz.underlying9
 a9:=Tryz.isAgg9
 z9:=Tryz.sizeOf9
 v9:=Tryz.zeroValue9
 t46:=Tryz.underlying144
 a46:=Tryz.isAgg144
 z46:=Tryz.sizeOf144
 v46:=Tryz.zeroValue144
 t51:=Tryz.underlying147
 a51:=Tryz.isAgg147
 z51:=Tryz.sizeOf147
 v51:=Tryz.zeroValue147
 t146:=Tryz.underlying229
 a146:=Tryz.isAgg229
 z146:=Tryz.sizeOf229
 v146:=Tryz.zeroValue229
 g1:=by kernel_rfl }
open Go.RowKit Go.Lib in
theorem Tryz.strings_Contains(s sub:ByteArray)(m:Int)(w:World)(hs:s.size<4294967281)(hm:w.cell? ⟨1,0,none⟩=some (.int .i64 m)):
  Calls prog 57 #[.string s,.string sub] w λ e w'=>e = .returned (.bool (Lib.contains s.data.toList sub.data.toList))/\w'=w:=Any.strings_Contains Tryz.lays144 s sub m w hs hm
open Go.Shelf Go.RowKit Go.Sort Go.Lib
set_option maxRecDepth 100000 in
theorem Tryz.internal_FormatUint_10(u:Nat)(hu64:u<18446744073709551616)(w:World)
  (htab : Lib.TabIs prog w "internal/strconv.uint64pow10" .u64 Lib.pow10Tab) :
  Calls prog 197 #[.int .u64 u,.int .i64 10] w λ e w'=>e = .returned (.string ⟨(Lib.decDigits u).toArray⟩)/\∃k os,w'=grow (w.drewN k) os:=by
 by_cases hs:u<100
 ·have h100:(u:Int)<100:=by omega
  have hw:i64.wrap (u:Int)=(u:Int):=by rw[IntKind.wrap_i64];omega
  go_enter Tryz.func197,Tryz.ntmps197
  go_wp2_with (go_at_call 156;refine(Tryz.internal_strconv_small u hs _).mono ?_;rintro e w' ⟨rfl,rfl⟩)
  go_ret
  refine⟨rfl,0,#[],by simp[World.drewN_zero]⟩
 ·have h100:¬(u:Int)<100:=by omega
  have hu1:1<=u:=by omega
  have hnd20:Lib.nDigits u<=20:=by have:=Lib.numDigits_eq u hu1 hu64;split at this<;>omega
  have hb3:Lib.nDigits u<=24:=by omega
  have hal:prog.arrayLen 184=24:=by simp[Program.arrayLen,Tryz.underlying184]
  have hsl1:∀W,(Instr.sliceAt 184 (.pointer (some ⟨w.heap.size,0,none⟩)) none (some (.int .i64 (Lib.nDigits u:Int))) none).run prog W = .ok (.slice (some ⟨w.heap.size,0,none⟩) (Lib.nDigits u) 24) W:=λ W=>by
   rw[run_sliceAt_array_h W 184 ⟨w.heap.size,0,none⟩ (by simp[Program.arrayLen,Program.elem,Tryz.underlying184]) .i64 (Lib.nDigits u:Int) (by omega) (by rw[hal];omega)]
   go_simp
  have hH0:=Lib.holds_zero0 w 184 (Lib.nDigits u) (by omega);have hfmt:=Tryz.internal_strconv_formatBase10 w.heap.size 0 24 u (Array.replicate (Lib.nDigits u) 0) (w.alloc (.cells Lib.zeros24 184)) hH0 (by rw[Array.size_replicate];exact Lib.lt_pow_nDigits u) hu64 (by rw[Array.size_replicate];omega);rw[Array.size_replicate]at hfmt;have HH0:=Lib.hid hH0;clear hH0 hal
  go_enter Tryz.func197,Tryz.ntmps197
  go_wp2_with (go_at_call 157;refine(Tryz.internal_strconv_numDigits u hu1 hu64 _ (Lib.tabIs_alloc htab _)).mono ?_;rintro e w' ⟨rfl,rfl⟩)
  go_at_call 158
  refine hfmt.mono ?_;rintro e w' ⟨rfl,k,v',dk,rfl,hF⟩;have hcv:(convert 22 9 (.slice (some ⟨w.heap.size,0,none⟩) (Lib.nDigits u) 24)).run prog ((putRow (λ (b:UInt8)=>Value.int .u8 (b.toNat:Int)) (w.alloc (.cells Lib.zeros24 184)) w.heap.size 0 dk).drewN k) = .ok (.string ⟨(Lib.decDigits u).toArray⟩) ((putRow (λ (b:UInt8)=>Value.int .u8 (b.toNat:Int)) (w.alloc (.cells Lib.zeros24 184)) w.heap.size 0 dk).drewN k):=by
   have h:=run_convert_bytes_back (P:=prog) ((putRow (λ (b:UInt8)=>Value.int .u8 (b.toNat:Int)) (w.alloc (.cells Lib.zeros24 184)) w.heap.size 0 dk).drewN k) 22 9 5 ⟨w.heap.size,0,none⟩ 24 (Lib.decDigits u) Tryz.underlying22 Tryz.underlying5 Tryz.underlying9 (λ j hj=>by
    rw[Lib.row_is_numeral hF j hj,Lib.add_plain,World.cell?_drewN]
    exact cell?_putRow (λ (b:UInt8)=>Value.int .u8 (b.toNat:Int)) _ w.heap.size 0 _ dk HH0.out (by rw[hF.size,Array.size_replicate]) j (by rw[hF.size];rw[Lib.decDigits_length]at hj;exact hj))
   rw[Lib.decDigits_length]at h;exact h
  go_wp2
  go_ret
  refine⟨rfl,k,?_⟩;rw[alloc_eq_grow];obtain⟨os',_,e⟩:=putRow_grow_new (λ (b:UInt8)=>Value.int .u8 (b.toNat:Int)) w #[.cells Lib.zeros24 184] w.heap.size 0 dk (aa4 _);exact⟨os',by rw[e];rfl⟩
theorem Tryz.strconv_FormatUint_10(u:Nat)(hu64:u<18446744073709551616)(w:World)
  (htab : Lib.TabIs prog w "internal/strconv.uint64pow10" .u64 Lib.pow10Tab) :
  Calls prog 167 #[.int .u64 u,.int .i64 10] w λ e w'=>e = .returned (.string ⟨(Lib.decDigits u).toArray⟩)/\∃k os,w'=grow (w.drewN k) os:=by
 go_enter Tryz.func167,Tryz.ntmps167
 go_wp2_with (go_at_call 197;refine(Tryz.internal_FormatUint_10 u hu64 _ htab).mono ?_;rintro e w' ⟨rfl,k,os,rfl⟩)
 go_ret
 exact⟨rfl,k,os,rfl⟩
end Go.Proofs
namespace Go.Dn.Dec
open Go.IntKind (i64 u64 u8 u16 i32 u32)
open Go.Proofs
open Tryz (prog)
theorem Gv(a:List Int):lU .u32 (ints .u32 a)=some a:=by
 induction a with
 |nil=>rfl
 |cons z a ih=>
  rw[AQ,lU,aaR rfl,ih];rfl
theorem Ji{a:List Int}(h:ep a):(a.all λ z=>decide (0<=z)&&decide (z<4294967296))=true:=by rw[abu];intro z hz;have:=h z hz;simp[this.1,this.2]
theorem X2(b c:Bool)(x y:Nat)(hx:Fits x)(hy:Fits y):rk prog aK (.call 218 [vl b (ws x),vl c (ws y)] [])=some (NT x y,[]):=by rw[po (g:=yJ) rfl];have lx:=hx.len;have ly:=hy.len;simp only[yJ,ws,Gv];rw[aaR ⟨Ji (cW x),Ji (cW y),by omega,by omega⟩,cM,cM]
theorem AW(n k:Nat)(h:k<(aT n).length):(aT n)[k]?=some ((n / W^k%W:Nat):Int):=by
 induction k generalizing n with
 |zero=>
  by_cases h0:n=0
  ·subst h0;rw[bZ]at h;simp at h
  ·rw[fL h0];simp
 |succ k ih=>
  by_cases h0:n=0
  ·subst h0;rw[bZ]at h;simp at h
  ·rw[fL h0]at h⊢;rw[List.getElem?_cons_succ,ih _ (by simpa using h),abx,abD (W^k),Nat.div_div_eq_div_mul]
theorem nc(a b:Nat):(a:Int).fdiv (b:Int)=((a / b:Nat):Int):=by rw[Int.fdiv_eq_ediv_of_nonneg _ (by omega)];rfl
theorem and_one{a:Nat}(h:a<4294967296):(BitVec.ofInt 32 (a:Int) &&& BitVec.ofInt 32 1).toNat=a%2:=by rw[BitVec.toNat_and,BitVec.ofInt_natCast,BitVec.toNat_ofNat,abF (by simpa using h)];exact Nat.and_one_is_mod a
theorem DB(x i:Nat):x / W^(i / 32)%W / 2^(i%32)%2=x / 2^i%2:=by
 have hk:i%32<32:=abz _ (by decide);have e:W=2^(i%32)*2^(32-i%32):=by rw[<-abC,show i%32+(32-i%32)=32 by omega];rfl
 rw[show x / W^(i / 32)%W=x / W^(i / 32)%(2^(i%32)*2^(32-i%32)) by rw[<-e]];rw[Nat.mod_mul_right_div_self,Nat.mod_mod_of_dvd,Nat.div_div_eq_div_mul,nK,<-abC,Nat.div_add_mod];exact⟨2^(32-i%32-1),by rw[<-Nat.pow_add_one'];congr 1;omega⟩
def dT(bx by_:Bool)(x y n:Nat)(br:Bool)(r:Nat)(i:Int)(fl:List (Nat×Nat))(qs:List Int):Task:=
 Task.at_ 198 0 (aJ 175) (sv 64 [(0,vl bx (ws x)),(1,vl by_ (ws y)),(4,V.m 0 0 n),(5,vl br (ws r)),(7,vi i)]) fl [aC (cellsOf qs)]
def dM(bx by_:Bool)(x y n:Nat)(br:Bool)(r:Nat)(i:Int)(qs:List Int):Task:=
 N8 (V.m 0 0 n) i bx by_ br (ws x) (ws y) (ws r) [aC (cellsOf qs)]
set_option exponentiation.threshold 400000 in
theorem pA{r:Nat}(h:r<2^300000):Fits r:=by unfold Fits;rw[nK];exact abL h (abM (by decide) (by decide))
theorem Cp:Fits 1:=sG (n:=0) (by decide)
theorem Pl(bx by_ br:Bool)(x y n r i:Nat)(fl:List (Nat×Nat))(hfl:fl=[(5,1)]\/fl=[])(qs:List Int)(hx:Fits x)(hi:i<32*(aT x).length)(hr:Fits r)(hr2:Fits (r*2)):
  rk prog aK (dT bx by_ x y n br r (i:Int) fl qs)=rk prog aK (dM bx by_ x y n (nb (r*2+x / 2^i%2)) (r*2+x / 2^i%2) (i:Int) qs):=by
 have lx:=hx.len;have s1:=C4 br r 1 hr (by decide);rw[Nat.pow_one]at s1;have hc:rk prog aK (.call 161 [vl br (ws r),vi 1] [])=some (.d (.l (nb (r*2)) (ws (r*2))),[]):=s1;have hof:rk prog aK (.call 160 [vu 1] [])=some (.d (.l (nb 1) (ws 1)),[]):=JX 1 (by decide);have hadd:=OM (nb (r*2)) (nb 1) (r*2) 1 hr2 Cp;have hq:i / 32<(aT x).length:=by omega
 have hg:(ws x)[i / 32]?=some (D.i .u32 ((x / W^(i / 32)%W:Nat):Int)):=by rw[ws,eW,AW x _ hq];rfl
 have ha:x / W^(i / 32)%W<4294967296:=abz _ iJ;have hbw:=DB x i;generalize x / W^(i / 32)%W=a at hg ha hbw;have ht1:(i:Int).tdiv 32=((i / 32:Nat):Int):=fV i 32;have ht2:(i:Int).tmod 32=((i%32:Nat):Int):=kM i 32;have hw:i64.wrap ((i / 32:Nat):Int)=((i / 32:Nat):Int):=bD;have hmin:min (i%32) 32=i%32:=by omega
 have hp:(0:Int)<=((i%32:Nat):Int):=by omega
 have hi0:(i:Int) ≥ 0:=by omega
 have hbit:u32.wrap (((BitVec.ofInt u32.bits ((a:Int).fdiv (2^(i%32))) &&& BitVec.ofInt u32.bits 1).toNat:Nat):Int)=((x / 2^i%2:Nat):Int):=by
  have e:(2:Int)^(i%32)=((2^(i%32):Nat):Int):=by simp
  have h32:a / 2^(i%32)<4294967296:=Nat.lt_of_le_of_lt (Nat.div_le_self _ _) ha;have:=and_one h32;rw[e,nc];have h2:(BitVec.ofInt u32.bits ((a / 2^(i%32):Nat):Int) &&& BitVec.ofInt u32.bits 1).toNat=a / 2^(i%32)%2:=this;rw[h2,hbw,dt];omega
 rcases hfl with rfl|rfl
 all_goals
  unfold dT
  first|rw[AD] | rw[vo]
  simp only[bo,aa3 hi0,if_true,bK,hc,Option.bind_some,List.isEmpty_nil,bn,dN,iP,ht1,ht2,hw,ct,hg,cQ,lg,abq,abe,kZ,List.getElem?_cons_zero,bO,aa3 hp,hmin,hbit];rcases Nat.mod_two_eq_zero_or_one (x / 2^i)with h|h
  ·rw[h];have h0:((((0:Nat):Int) != 0)=true)=False:=by simp
   simp only[h0,if_false,aG,Nat.add_zero];unfold dM;generalize rk prog aK (.at_ 198 0 (aJ 14639) _ _ _)=R;cases R<;>rfl
  ·rw[h];have h0:((((1:Nat):Int) != 0)=true)=True:=by simp
   simp only[h0,if_true,hof,hadd,Option.bind_some,List.isEmpty_nil,dN,iP,bn,aA,bK,aG];unfold dM;generalize rk prog aK (.at_ 198 0 (aJ 14639) _ _ _)=R;cases R<;>rfl
theorem Ze{z k:Nat}(hz:z<4294967296)(hk:k<32)(hd:z%2^(k+1)=0):u32.wrap (((BitVec.ofInt u32.bits (z:Int) ||| BitVec.ofInt u32.bits (u32.wrap (1*2^k))).toNat:Nat):Int)=((z+2^k:Nat):Int)/\z+2^k<4294967296:=by
 have h2:2^k<=2147483648:=abI (abM (by decide) (show k<=31 by omega)) (by decide);obtain⟨t,ht⟩:=Nat.dvd_of_mod_eq_zero hd;have hlt:z+2^k<4294967296:=by
  have hW:4294967296=2^(k+1)*2^(31-k):=by rw[<-abC,show k+1+(31-k)=32 by omega]
  have h3:t<2^(31-k):=by rw[ht,hW]at hz;exact Nat.lt_of_mul_lt_mul_left hz
  have h4:2^(k+1)*(t+1)<=4294967296:=by rw[hW];exact Nat.mul_le_mul_left _ h3
  have h5:2^(k+1)=2*2^k:=by rw[abx,abD]
  have h6:=abt (n:=k) (show 0<2 by decide);rw[abA,Nat.mul_one,<-ht]at h4;omega
 refine⟨?_,hlt⟩;have e:(1:Int)*2^k=((2^k:Nat):Int):=by simp
 rw[e,dt (((2^k:Nat)):Int),oi (by omega)];have h3:(BitVec.ofInt u32.bits (z:Int) ||| BitVec.ofInt u32.bits ((2^k:Nat):Int)).toNat=z ||| 2^k:=by show (BitVec.ofInt 32 (z:Int) ||| BitVec.ofInt 32 ((2^k:Nat):Int)).toNat=_;rw[BitVec.toNat_or,BitVec.ofInt_natCast,BitVec.ofInt_natCast,BitVec.toNat_ofNat,BitVec.toNat_ofNat,abF (by simpa using hz),abF (by omega)]
 have h4:z ||| 2^k=z+2^k:=by rw[ht,<-Nat.two_pow_add_eq_or_of_lt (Nat.pow_lt_pow_right (by decide) (Nat.lt_succ_self k))]
 rw[h3,h4,dt];omega
theorem Dj{qs:List Int}(hu:ep qs){q:Nat}(hq:q<qs.length):qs[q]=((aW qs / W^q%W:Nat):Int):=by
 induction qs generalizing q with
 |nil=>simp at hq
 |cons z qs ih=>
  obtain⟨hz,hu'⟩:=ep.cons.1 hu;have hzW:z.toNat<W:=by unfold W;omega
  cases q with
  |zero=>simp only[List.getElem_cons_zero,aW,Nat.pow_zero,Nat.div_one,Nat.add_mul_mod_self_left,abF hzW];omega
  |succ q=>
   simp only[List.getElem_cons_succ,aW];rw[ih hu' (by simpa using hq),abx,abD (W^q),<-Nat.div_div_eq_div_mul,Nat.add_mul_div_left _ _ iJ,Nat.div_eq_of_lt hzW,abv]
theorem E1{Q q k m:Nat}(hk:k<32)(h:Q=2^(32*q+k+1)*m):Q / W^q%W%2^(k+1)=0:=by rw[Nat.mod_mod_of_dvd _ ⟨2^(31-k),by rw[<-abC,show k+1+(31-k)=32 by omega];rfl⟩,h,nK,show 32*q+k+1=32*q+(k+1)from rfl,abC,abm,Nat.mul_div_cancel_left _ (abt (by decide)),Nat.mul_mod_right]
theorem TX(bx by_ br:Bool)(x y n r i:Nat)(qs:List Int)(hr:Fits r)(hy:Fits y)(hn:n=qs.length)(hi:i<32*n)(hn2:n<=10000)(hu:ep qs)(m:Nat)(hv:aW qs=2^(i+1)*m):
  (r<y->rk prog aK (dM bx by_ x y n br r (i:Int) qs)=rk prog aK (dT bx by_ x y n br r ((i:Int)-1) [] qs))/\
  (y<=r->∃qs',ep qs'/\qs'.length=n/\aW qs'=2^i*(2*m+1)/\rk prog aK (dM bx by_ x y n br r (i:Int) qs)=rk prog aK (dT bx by_ x y n (nb (r-y)) (r-y) ((i:Int)-1) [] qs')):=by
 have hs:=X2 br by_ r y hr hy;have hw1:i64.wrap ((i:Int)-1)=(i:Int)-1:=bD;constructor
 ·intro h;unfold dM dT;rw[vm];rw[NT,aaR h]at hs;simp[hs,hw1]
 ·intro h;have hq:i / 32<qs.length:=by omega
  have hk:i%32<32:=abz _ (by decide);have hwd:=Dj hu hq;have hz:aW qs / W^(i / 32)%W<4294967296:=abz _ iJ;have hlow:aW qs / W^(i / 32)%W%2^(i%32+1)=0:=E1 (q:=i / 32) (m:=m) hk (by rw[Nat.div_add_mod];exact hv);have hval:=mA qs (i / 32) ((aW qs / W^(i / 32)%W+2^(i%32):Nat):Int) hq;rw[hwd,abe,abe,abA,Dv (i / 32) (i%32),Nat.div_add_mod]at hval;have hg:qs[i / 32]?=some ((aW qs / W^(i / 32)%W:Nat):Int):=by rw[abl hq,hwd]
  generalize aW qs / W^(i / 32)%W=z at *;obtain⟨hor,hlt⟩:=Ze hz hk hlow;refine⟨qs.set (i / 32) ((z+2^(i%32):Nat):Int),hu.set _ hlt,by simp[hn],?_,?_⟩
  ·have:2^(i+1)=2*2^i:=by rw[abx,abD]
   have e:2^i*(2*m+1)=2^(i+1)*m+2^i:=by rw[this,abA,Nat.mul_one,<-abm,abD (2^i) 2]
   rw[e];omega
  ·unfold dM dT;rw[vm];rw[NT,cE,nj]at hs;have ht1:(i:Int).tdiv 32=((i / 32:Nat):Int):=fV i 32;have ht2:(i:Int).tmod 32=((i%32:Nat):Int):=kM i 32;have hw:i64.wrap ((i / 32:Nat):Int)=((i / 32:Nat):Int):=bD;have hmin:min (i%32) 32=i%32:=by omega
   have hp:(0:Int)<=((i%32:Nat):Int):=by omega
   have hb1:(0:Int)<=((i / 32:Nat):Int)/\((i / 32:Nat):Int)<(n:Int):=by omega
   have hb2:i / 32<(cellsOf qs).length:=by rw[fk];exact hq
   simp only[bK,hs,Option.bind_some,List.isEmpty_nil,bn,if_true,S8,aaT,abp,abv,Nat.reduceAdd,abq,List.getD_cons_zero,List.getD_cons_succ,dN,iP,wP,bo,ht1,ht2,hw,aa3 hb1,abe,dw,hg,Option.map_some,cQ,bO,aa3 hp,aa3 hb2,Bool.and_true,hmin,hor,hw1,iB,aG];generalize rk prog aK (.at_ 198 0 (aJ 175) _ _ _)=R;cases R<;>rfl
theorem Pm(bx by_:Bool)(x y:Nat)(hx:Fits x)(hy:Fits (y*2))(hy0:0<y):∀(i:Nat) (br:Bool) (fl:List (Nat×Nat)) (r:Nat) (qs:List Int),(fl=[(5,1)]\/fl=[])->i<=32*(aT x).length->r=x / 2^i%y->aW qs=2^i*(x / 2^i / y)->ep qs->qs.length=(aT x).length->
  rk prog aK (dT bx by_ x y (aT x).length br r ((i:Int)-1) fl qs)=some (.t [.d (.l (nb (x / y)) (ws (x / y))),.d (.l (nb (x%y)) (ws (x%y))),.d (.b true)],[]):=by
 have lx:=hx.len;intro i
 induction i with
 |zero=>
  intro br fl r qs hfl hi hr hv hu hl;rw[Nat.pow_zero,Nat.div_one]at hr;rw[Nat.pow_zero,Nat.div_one,Nat.one_mul]at hv;have hcm:=DN qs hu (by omega);rw[hl,hv,nj]at hcm;have hc:=rq br r (by rw[hr];exact hx.le (Nat.mod_le _ _));rw[hr]at hc;have h1:¬((((0:Nat):Int)-1) ≥ 0):=by omega
  unfold dT;rw[hr];rcases hfl with rfl|rfl
  ·rw[AD];simp only[bo,abf h1,Bool.false_eq_true,if_false,bK,hcm,Option.bind_some,jW,iI,abq,bn,if_true,lf,dN,iP,hc,List.isEmpty_nil,aG]
  ·rw[vo];simp only[bo,abf h1,Bool.false_eq_true,if_false,bK,hcm,Option.bind_some,jW,iI,abq,bn,if_true,lf,dN,iP,hc,List.isEmpty_nil,aG]
 |succ i ih=>
  intro br fl r qs hfl hi hr hv hu hl;have hry:r<y:=by rw[hr];exact abz _ hy0
  have e:(((i+1:Nat):Int)-1)=(i:Int):=by omega
  have fr:Fits (r*2):=hy.le (abH _ (by omega));have hb:=Nat.mod_two_eq_zero_or_one (x / 2^i);have fr1:Fits (r*2+x / 2^i%2):=hy.le (by omega);have hX:x / 2^i=2*(x / 2^(i+1))+x / 2^i%2:=by rw[abx,<-Nat.div_div_eq_div_mul];have:=Nat.div_add_mod (x / 2^i) 2;omega
  have hdm:=Nat.div_add_mod (x / 2^(i+1)) y;rw[<-hr]at hdm;have hXY:x / 2^i=y*(2*(x / 2^(i+1) / y))+(r*2+x / 2^i%2):=by
   have:y*(2*(x / 2^(i+1) / y))=2*(y*(x / 2^(i+1) / y)):=by rw[Nat.mul_left_comm]
   omega
  rw[e,Pl bx by_ br x y _ r i fl hfl qs hx (by omega) (hr▸fr.le (by omega)) fr];have hm:=TX bx by_ (nb (r*2+x / 2^i%2)) x y (aT x).length (r*2+x / 2^i%2) i qs fr1 (hy.le (by omega)) hl.symm (by omega) lx hu (x / 2^(i+1) / y) hv;by_cases hlt:r*2+x / 2^i%2<y
  ·rw[hm.1 hlt];have hq:x / 2^i / y=2*(x / 2^(i+1) / y):=by
    conv=>lhs;rw[hXY]
    rw[Nat.mul_add_div hy0,Nat.div_eq_of_lt hlt,Nat.add_zero]
   have hrr:x / 2^i%y=r*2+x / 2^i%2:=by
    conv=>lhs;rw[hXY]
    rw[Nat.mul_add_mod,abF hlt]
   refine ih _ [] _ qs (Or.inr rfl) (by omega) hrr.symm ?_ hu hl;rw[hv,hq,abx,abm]
  ·obtain⟨qs',u1,u2,u3,u4⟩:=hm.2 (by omega)
   rw[u4];have hq:x / 2^i / y=2*(x / 2^(i+1) / y)+1:=by
    conv=>lhs;rw[hXY]
    have hd1:(r*2+x / 2^i%2) / y=1:=Nat.div_eq_of_lt_le (by omega) (by omega);rw[Nat.mul_add_div hy0,hd1]
   have hrr:x / 2^i%y=r*2+x / 2^i%2-y:=by
    conv=>lhs;rw[hXY]
    rw[Nat.mul_add_mod,Nat.mod_eq_sub_mod (by omega),abF (by omega)]
   refine ih _ [] _ qs' (Or.inr rfl) (by omega) hrr.symm ?_ u1 u2;rw[u3,hq]
theorem W5(b c:Bool)(x y:Nat)(hx:Fits x)(hy:Fits (y*2))(hy0:0<y):rk prog aK (.call 198 [vl b (ws x),vl c (ws y)] [])=some (.t [.d (.l (nb (x / y)) (ws (x / y))),.d (.l (nb (x%y)) (ws (x%y))),.d (.b true)],[]):=by
 rw[f74];have lx:=hx.len;have fy:Fits y:=hy.le (by omega);have c1:=rq b x hx;have c2:=rq c y fy;have cb:=B4 (nb x) x hx;have hyl:(aT y).length≠0:=λ e=>by
  have:=(fZ y).1 (List.length_eq_zero_iff.1 e);omega
 have h4:((((aT y).length:Nat):Int)==0)=false:=abr.2 (by omega);have hbl:bJ x<=32*(aT x).length:=(du _ _).2 (by rw[<-nK];exact gP x);have hw:i64.wrap (((bJ x:Nat):Int)-1)=((bJ x:Nat):Int)-1:=bD;have hle:(((aT x).length:Nat):Int)<=4294967296:=by omega
 have hx0:x / 2^bJ x=0:=Nat.div_eq_of_lt (og x);have h:=Pm (nb x) (nb y) x y hx hy hy0 (bJ x) true [(5,1)] 0 (List.replicate (aT x).length 0) (Or.inl rfl) hbl (by rw[hx0,Nat.zero_mod]) (by rw[hx0,Nat.zero_div,Nat.mul_zero,gY]) (λ z hz=>by rw[List.mem_replicate]at hz;omega) (by simp);unfold dT at h;rw[<-gT,wK]at h;simp only[bK,c1,c2,Option.bind_some,List.isEmpty_nil,bn,if_true,dN,iP,ed,bo,h4,Bool.false_eq_true,if_false,decide_true,aa3 hle,cb,bO,hw,abe,aG,h]
theorem f54(b:Bool)(xs:List D)(c:Bool)(ys:List D):EQ aK (.call 169 [vl b xs,vl c ys] []) (cV (.call 198 [vl b xs,vl c ys] []) λ a=>dI a λ e=>aO (e.length==3) (bG (cG e 0) λ f=>gX f λ g h=>bG (cG e 1) λ j=>gX j λ k m=>bG (cG e 2) λ n=>jz n λ o=>cV (.call 161 [vl k m,vi 1] []) λ p=>aL p λ q r=>cV (.call 164 [vl q r,vl c ys] []) λ s=>aI s λ t=>aV (decide (t>0)) (aR (Gl g true h [])) (aV (t==0) (cV (.call 168 [vl g h] []) λ zu=>aU zu λ v=>aR (Gl g (u64.wrap ((BitVec.ofInt u64.bits v &&& BitVec.ofInt u64.bits 1).toNat:Int)==1) h [])) (aR (Gl g false h []))))):=aF
theorem f33(q:Int):EQ aK (.call 112 [vu q] []) (aV (decide (i64.wrap (u64.wrap ((BitVec.ofInt u64.bits (q.fdiv 4503599627370496) &&& BitVec.ofInt u64.bits 2047).toNat:Int))>0)) (aR (LL (u64.wrap ((BitVec.ofInt u64.bits (u64.wrap ((BitVec.ofInt u64.bits q &&& BitVec.ofInt u64.bits 4503599627370495).toNat:Int)) ||| BitVec.ofInt u64.bits 4503599627370496).toNat:Int)) (i64.wrap (-1074+i64.wrap (i64.wrap (u64.wrap ((BitVec.ofInt u64.bits (q.fdiv 4503599627370496) &&& BitVec.ofInt u64.bits 2047).toNat:Int))-1))) [])) (aR (LL (u64.wrap ((BitVec.ofInt u64.bits q &&& BitVec.ofInt u64.bits 4503599627370495).toNat:Int)) (-1074) []))):=aF
theorem f35(b:Bool)(xs:List D)(c:Bool)(ys:List D)(n:Int):EQ aK (.call 114 (Tz n b c xs ys) []) (aV (decide (n<0)) (cV (.call 166 [vi (i64.wrap (0-n))] []) λ a=>aL a λ e f=>cV (.call 165 [vl b xs,vl e f] []) λ g=>aL g λ h j=>cV (.call 164 [vl h j,vl c ys] []) λ k=>aI k λ m => .ret (vb (decide (m<0)),[])) (cV (.call 166 [vi n] []) λ o=>aL o λ p q=>cV (.call 165 [vl c ys,vl p q] []) λ r=>aL r λ s t=>cV (.call 164 [vl b xs,vl s t] []) λ zu=>aI zu λ v => .ret (vb (decide (v<0)),[]))):=aF
theorem f37(b:Bool)(xs:List D)(c:Bool)(ys:List D)(n:Int):EQ aK (.call 116 (Tz n b c xs ys) []) (aV (decide (n<0)) (cV (.call 166 [vi (i64.wrap (0-n))] []) λ a=>aL a λ e f=>cV (.call 165 [vl b xs,vl e f] []) λ g=>aL g λ h j=>cV (.call 169 [vl h j,vl c ys] []) λ k=>aL k λ m o => .ret (vl m o,[])) (cV (.call 166 [vi n] []) λ p=>aL p λ q r=>cV (.call 165 [vl c ys,vl q r] []) λ s=>aL s λ t zu=>cV (.call 169 [vl b xs,vl t zu] []) λ v=>aL v λ w x => .ret (vl w x,[]))):=aF
theorem f36(b:Bool)(xs:List D):EQ aK (.call 115 [vl b xs] []) (cV (.call 168 [vl b xs] []) λ a=>aU a λ c=>cV (.call 167 [vu c,vi 10] []) λ e=>aS e λ f => .ret (vs f,[])):=aF
theorem f15(q:Int):EQ aK (.call 50 [vu q] []) (aV (u64.wrap ((BitVec.ofInt u64.bits (q.fdiv 4503599627370496) &&& BitVec.ofInt u64.bits 2047).toNat:Int)==2047) (.ret (vs [],[])) (aV (u64.wrap ((BitVec.ofInt u64.bits q &&& BitVec.ofInt u64.bits 9223372036854775808).toNat:Int) != 0) (aR (LQ [45] (u64.wrap ((BitVec.ofInt u64.bits q &&& ~~~BitVec.ofInt u64.bits 9223372036854775808).toNat:Int)) [])) (aR (LQ [] q [])))):=aF
theorem PG(b0:Bool)(l1:List D)(b2:Bool):EQ aK (Gl b0 b2 l1 []) (aV b2 (cV (.call 160 [vu 1] []) λ o0=>aL o0 λ b2 l3=>cV (.call 199 [vl b0 l1,vl b2 l3] []) λ o4=>aL o4 λ b6 l7 => .ret (vl b6 l7,[])) (.ret (vl b0 l1,[]))):=aF
theorem PD(n0 n1:Int):EQ aK (LL n0 n1 []) (aV (decide (n1<0)) (cV (.call 160 [vu n0] []) λ a=>aL a λ b c=>cV (.call 160 [vu 1] []) λ e=>aL e λ f g=>cV (.call 161 [vl f g,vi (i64.wrap (0-n1))] []) λ h=>aL h λ j k => .ret (.t [vl b c,vl j k],[])) (cV (.call 160 [vu n0] []) λ m=>aL m λ n o=>cV (.call 161 [vl n o,vi n1] []) λ p=>aL p λ q r=>cV (.call 160 [vu 1] []) λ s=>aL s λ zu v => .ret (.t [vl q r,vl zu v],[]))):=aF
theorem Pz(n0:Int)(l1:aE):EQ aK (LQ l1 n0 []) (aV (n0==0) (dP (l1.length+5) (.ret (vs (l1++[48,46,48,101,48]),[]))) (cV (.call 112 [vu n0] []) λ a=>dI a λ c=>aO (c.length==2) (bG (cG c 0) λ e=>gX e λ f g=>bG (cG c 1) λ h=>gX h λ j k=>cV (.call 113 [vl f g] []) λ m=>aI m λ n=>cV (.call 113 [vl j k] []) λ o=>aI o λ p=>aR (SR l1 (i64.wrap (i64.wrap ((i64.wrap (i64.wrap (n-p)*30103)).tdiv 100000)+1)) f j g k [])))):=aF
theorem Av(l0:aE)(b1:Bool)(l2:List D)(b3:Bool)(l4:List D)(n5:Int):EQ aK (SR l0 n5 b1 b3 l2 l4 []) (cV (.call 114 (Tz n5 b1 b3 l2 l4) []) λ a=>aB a λ b=>aV b (aR (SR l0 (i64.wrap (n5-1)) b1 b3 l2 l4 [])) (cV (.call 116 (Tz (i64.wrap (i64.wrap (n5-17)+1)) b1 b3 l2 l4) []) λ c=>aL c λ e f=>cV (.call 115 [vl e f] []) λ g=>aS g λ h=>aV (decide ((h.length:Int)>17)) (cV (.call 116 (Tz (i64.wrap (i64.wrap (i64.wrap (n5+1)-17)+1)) b1 b3 l2 l4) []) λ j=>aL j λ k m=>cV (.call 115 [vl k m] []) λ n=>aS n λ o=>aR (Lh l0 o (i64.wrap (n5+1)) [])) (aR (Lh l0 h n5 [])))):=aF
theorem Hq(l0:aE)(n1:Int)(l2:aE):EQ aK (Lh l0 l2 n1 []) (aO (decide ((0:Int)<=1/\1<=(l2.length:Int))) (cV (.call 117 [vs (List.take (l2.length-1) (List.drop 1 l2)),vs [48]] []) λ a=>aS a λ b=>aV (b==[]) (aR (KK l0 l2 [48] n1 [])) (aR (KK l0 l2 b n1 [])))):=aF
theorem Hr(l0:aE)(n1:Int)(l2 l3:aE):EQ aK (KK l0 l2 l3 n1 []) (aO (decide ((0:Int)<=1/\1<=(l2.length:Int))) (dP (l0.length+(List.take 1 (List.drop 0 l2)).length) (dP ((l0++List.take 1 (List.drop 0 l2)).length+1) (dP ((l0++List.take 1 (List.drop 0 l2)++[46]).length+l3.length) (dP ((l0++List.take 1 (List.drop 0 l2)++[46]++l3).length+1) (cV (.call 118 [vi n1] []) λ a=>aS a λ b=>dP ((l0++List.take 1 (List.drop 0 l2)++[46]++l3++[101]).length+b.length) (.ret (vs (l0++List.take 1 (List.drop 0 l2)++[46]++l3++[101]++b),[])))))))):=aF
set_option exponentiation.threshold 5000000
def ek(x y:Nat):Nat:=if y<2*(x%y)\/(2*(x%y)=y/\x / y%2=1)then x / y+1 else x / y
theorem xB:Fits 1:=pA (Nat.one_lt_two_pow (by decide))
theorem H3:rk prog aK (.call 160 [vu 1] [])=some (.d (.l (nb 1) (ws 1)),[]):=JX 1 (by decide)
theorem Uv{q:Nat}:(u64.wrap (((BitVec.ofInt u64.bits ((q%18446744073709551616:Nat):Int) &&& BitVec.ofInt u64.bits 1).toNat:Nat):Int)==1)=decide (q%2=1):=by
 have e:(BitVec.ofInt u64.bits ((q%18446744073709551616:Nat):Int) &&& BitVec.ofInt u64.bits 1).toNat=q%2:=by
  show (BitVec.ofInt 64 ((q%18446744073709551616:Nat):Int) &&& BitVec.ofInt 64 1).toNat=_;rw[BitVec.toNat_and,BitVec.ofInt_natCast,BitVec.toNat_ofNat];have:(BitVec.ofInt 64 1).toNat=1:=by decide
  rw[this,Nat.and_one_is_mod];omega
 rw[e,aY,eD (by omega)];rcases Nat.mod_two_eq_zero_or_one q with h|h<;>simp[h]
theorem JK(b c:Bool)(x y:Nat)(hx:Fits x)(hx1:Fits (x+1))(hy:Fits (y*2))(hy0:0<y):rk prog aK (.call 169 [vl b (ws x),vl c (ws y)] [])=some (.d (.l (nb (ek x y)) (ws (ek x y))),[]):=by
 rw[f54];have hdv:=W5 b c x y hx hy hy0;have hr:x%y<y:=abz _ hy0;have fr:Fits (x%y):=hy.le (by omega);have hs:rk prog aK (.call 161 [vl (nb (x%y)) (ws (x%y)),vi 1] [])=some (.d (.l (nb (x%y*2^1)) (ws (x%y*2^1))),[]):=C4 (nb (x%y)) (x%y) 1 fr (by decide);rw[Nat.pow_one]at hs;have hc:=G4 (nb (x%y*2)) c (x%y*2) y (hy.le (by omega)) (hy.le (by omega));have hq:x / y<=x:=Nat.div_le_self _ _;have hl:=Qi (nb (x / y)) (x / y) (hx.le hq);have ha:=OM (nb (x / y)) (nb 1) (x / y) 1 (hx.le hq) xB;have t1:∀bb:Bool,rk prog aK (Gl (nb (x / y)) bb (ws (x / y)) [])=some (.d (.l (nb (if bb=true then x / y+1 else x / y)) (ws (if bb=true then x / y+1 else x / y))),[]):=by
  intro bb;rw[PG];cases bb
  ·simp
  ·simp[H3,ha]
 simp only[bK,hdv,Option.bind_some,List.isEmpty_nil,bn,if_true,S8,aaT,abp,abv,Nat.reduceAdd,abq,List.getD_cons_zero,List.getD_cons_succ,dN,iP,wP,hs,hc,bO,bo,aG,hl,Uv,t1];unfold ek gB;by_cases h1:x%y*2<y
 ·simp only[aaR h1];rw[aaN (by decide),aaN (by decide)];have:¬(y<2*(x%y)\/(2*(x%y)=y/\x / y%2=1)):=by omega
  simp[this]
 ·by_cases h2:y<x%y*2
  ·simp only[aaN h1,aaR h2];have:(y<2*(x%y)\/(2*(x%y)=y/\x / y%2=1)):=by omega
   simp[this]
  ·simp only[aaN h1,aaN h2];have e:(y<2*(x%y)\/(2*(x%y)=y/\x / y%2=1))=(x / y%2=1):=propext (by omega);simp only[e];simp
def jL(q:Nat)(e:Int):Nat×Bool:=
 if q<2^52 then(q,true)else if 971<e then(0,false) else((e+1075).toNat*2^52+(q-2^52),true)
theorem XS{a b k:Nat}(h:b<2^k):a*2^k ||| b=a*2^k+b:=by rw[Nat.or_comm,pU h,Nat.add_comm]
def dh(x y:Nat)(e:Int):Nat:=if e<0 then ek (x*2^(-e).toNat) y else ek x (y*2^e.toNat)
def fC(x y:Nat):Int:=max ((bJ x:Int)-bJ y-53) (-1074)
def iQ(x y:Nat):Nat×Bool:=
 if x=0 then(0,true)
 else if bJ (dh x y (fC x y))<=53 then jL (dh x y (fC x y)) (fC x y)
 else if bJ (dh x y (fC x y+1))<=53 then jL (dh x y (fC x y+1)) (fC x y+1)
 else jL (dh x y (fC x y+2)) (fC x y+2)
theorem xY{x y k:Nat}(hy:0<y)(h:x<=k*y):ek x y<=k:=by
 have hd:=Nat.div_add_mod x y;have hr:x%y<y:=abz _ hy;have h1:x / y<=k:=Nat.div_le_of_le_mul (by rw[abD];exact h);unfold ek;split
 ·rcases abn (x / y) k with h2|h2
  ·omega
  ·have:x / y=k:=by omega
   rw[this,abD]at hd;omega
 ·exact h1
theorem Ni(x y:Nat)(hy:0<y)(e:Int)(k:Nat)(h:if e<0 then x*2^(-e).toNat<=k*y else x<=k*(y*2^e.toNat)):dh x y e<=k:=by
 unfold dh;split
 ·rename_i he;rw[aaR he]at h;exact xY hy h
 ·rename_i he;rw[aaN he]at h;exact xY (Nat.mul_pos hy (abt (by decide))) h
theorem Rz(x y:Nat)(hx:x≠0)(hy:0<y):dh x y (fC x y+2)<=2^52:=by
 apply Ni x y hy;have hx2:=og x;have hy2:=ql y (by omega);have hyp:=mW (n:=y) (by omega);have hf:(bJ x:Int)-bJ y-53<=fC x y:=Int.le_max_left ..;generalize fC x y=e at hf;split
 ·rename_i he;have h1:x*2^(-(e+2)).toNat<=2^(bJ x+(-(e+2)).toNat):=by rw[abC];exact abH _ (Nat.le_of_lt hx2)
  have h2:2^(52+(bJ y-1))<=2^52*y:=by rw[abC];exact Nat.mul_le_mul_left _ hy2
  exact abI h1 (abI (abM (by decide) (by omega)) h2)
 ·rename_i he;have h2:2^(52+(bJ y-1)+(e+2).toNat)<=2^52*(y*2^(e+2).toNat):=by rw[abC,abC,<-abm];exact abH _ (Nat.mul_le_mul_left _ hy2)
  exact abI (Nat.le_of_lt hx2) (abI (abM (by decide) (by omega)) h2)
def tX(n:Nat):Prop:=n<2^4000
theorem tX.fits{n:Nat}(h:tX n):Fits n:=pA (abL h (abM (by decide) (by decide)))
theorem tX.mul_fits{n k:Nat}(h:tX n)(hk:k<=10000):Fits (n*2^k)/\Fits (n*2^k+1)/\Fits (n*2^k*2):=by
 have h1:n*2^k+1<=2^(4000+k):=by rw[abC];exact abO h (abt (by decide))
 have h3:n*2^k*2<=2^(4000+k+1):=by rw[abx];exact abH _ (by omega)
 have h2:2^(4000+k+1)<2^300000:=Nat.pow_lt_pow_right (by decide) (by omega);have h4:2^(4000+k)<=2^(4000+k+1):=abM (by decide) (by omega);exact⟨pA (by omega),pA (by omega),pA (by omega)⟩
theorem tX.bJ{n:Nat}(h:tX n):bJ n<=4000:=(du _ _).2 h
theorem tX.fits1{n:Nat}(h:tX n):Fits (n+1):=by have:=(h.mul_fits (k:=0) (by decide)).2.1;rwa[Nat.pow_zero,Nat.mul_one]at this
theorem tX.fits2{n:Nat}(h:tX n):Fits (n*2):=by have:=(h.mul_fits (k:=0) (by decide)).2.2;rwa[Nat.pow_zero,Nat.mul_one]at this
def tD(neg:Bool)(v:Nat):Nat:=if neg=true then v ||| 2^63 else v
theorem rJ{q:Nat}(e:Int)(h:q<2^53):(jL q e).1<2^63:=by
 unfold jL;split
 ·simp only;omega
 ·split
  ·simp only;omega
  ·simp only;omega
theorem OX(x y:Nat)(hy:0<y):(iQ x y).1<2^63:=by
 unfold iQ;split
 ·simp only;omega
 ·split
  ·rename_i h;exact rJ _ ((du _ _).1 h)
  ·split
   ·rename_i h;exact rJ _ ((du _ _).1 h)
   ·rename_i h0 _ _;have:=Rz x y h0 hy;exact rJ _ (by omega)
theorem Kk{v:Nat}(h:v<2^63):u64.wrap (((BitVec.ofInt u64.bits (v:Int) ||| BitVec.ofInt u64.bits 9223372036854775808).toNat:Nat):Int)=((v ||| 2^63:Nat):Int)/\v ||| 2^63=v+2^63:=by
 have h1:v ||| 2^63=v+2^63:=by
  have:=pU (c:=v) (a:=1) (k:=63) h
  rwa[Nat.one_mul]at this
 have e63:(2:Nat)^63=9223372036854775808:=by decide
 have h2:(BitVec.ofInt u64.bits (v:Int) ||| BitVec.ofInt u64.bits 9223372036854775808).toNat=v ||| 2^63:=by rw[e63];exact mK (a:=v) (b:=9223372036854775808) (by omega) (by decide)
 rw[h2];refine⟨?_,h1⟩;rw[h1,aY];omega
theorem hO{n:Nat}(h:n<2^4000):tX n:=h
theorem Uy:tX 1:=Nat.one_lt_two_pow (by decide)
theorem JI{n:Nat}(h:n<18446744073709551616):tX n:=hO (abL h (show (2:Nat)^64<=2^4000 from abM (by decide) (by decide)))
theorem Xz(a b:V):([a,b].length==2)=true:=rfl
def aP(c:UInt8):Bool:=decide (48<=c.toNat)&&decide (c.toNat<=57)
def dz(s:aE):Bool×aE:=
 match s with
 | []=>(false,[])
 |c::r=>if c=43 then(false,r)else if c=45 then(true,r) else(false,c::r)
theorem y4(c d:UInt8):((c.toNat:Int)==(d.toNat:Int))=decide (c=d):=by
 by_cases h:c=d
 ·subst h;simp
 ·have:c.toNat≠d.toNat:=λ e=>h (UInt8.toNat_inj.1 e);rw[abr.2 (by omega)];simp[h]
theorem WB(c:UInt8):((c.toNat:Int)==43)=decide (c=43):=y4 c 43
theorem Gu(c:UInt8):((c.toNat:Int)==45)=decide (c=45):=y4 c 45
theorem ZF(c:UInt8):((c.toNat:Int)==46)=decide (c=46):=y4 c 46
theorem Yf(c:UInt8):((c.toNat:Int) != 101)=decide (c≠101):=by rw[bne,show ((c.toNat:Int)==101)=decide (c=101)from y4 c 101];by_cases h:c=101<;>simp[h]
theorem ZG(c:UInt8):((c.toNat:Int) != 69)=decide (c≠69):=by rw[bne,show ((c.toNat:Int)==69)=decide (c=69)from y4 c 69];by_cases h:c=69<;>simp[h]
structure Tx where
 neg:Bool
 whole:aE
 part:aE
 en:Bool
 ex:aE
def kE(neg:Bool)(w p s:aE):Tx×Bool:=
 if w=[]/\p=[] then(⟨neg,w,p,false,[]⟩,false)
 else match s with
  | []=>(⟨neg,w,p,false,[]⟩,true)
  |c::r=>if c≠101/\c≠69 then(⟨neg,w,p,false,[]⟩,false)
   else(⟨neg,w,p,(dz r).1,(dz r).2.takeWhile aP⟩,decide ((dz r).2.takeWhile aP≠[])&&decide ((dz r).2.dropWhile aP=[]))
def splitB(s:aE):Tx×Bool:=
 let n:=(dz s).1
 let w:=(dz s).2.takeWhile aP
 match (dz s).2.dropWhile aP with
 | []=>kE n w [] []
 |c::r=>if c=46 then(if r.takeWhile aP=[] then(⟨n,w,[],false,[]⟩,false)else kE n w (r.takeWhile aP) (r.dropWhile aP))else kE n w [] (c::r)
theorem TM(l:aE):(l==[])=decide (l=[]):=by cases l<;>simp
def dS(c:UInt8):Nat:=c.toNat-48
def om(v:Nat)(d:aE):Nat:=d.foldl (λ a c=>a*10+dS c) v
def dq(d:aE):Nat:=om 0 d
theorem iD(c:UInt8):aP c=true↔48<=c.toNat/\c.toNat<=57:=by simp[aP]
theorem wc{c:UInt8}(h:aP c=true):dS c<10:=by have:=(iD c).1 h;unfold dS;omega
theorem fH{n:Nat}(h:n<=1000):10^n<2^4000:=by
 have h1:10^n<=10^1000:=abM (by decide) h;have h2:10^1000<=16^1000:=Nat.pow_le_pow_left (by decide) 1000;have h3:(16:Nat)^1000=2^4000:=by rw[show (16:Nat)=2^4 from rfl,<-Nat.pow_mul]
 have h4:(10:Nat)^1000<16^1000:=Nat.pow_lt_pow_left (by decide) (by decide);omega
theorem JR:∀(d:aE) (v k:Nat),(∀c∈d,aP c=true)->v<10^k->om v d<10^(k+d.length)
 | [],v,k,_,h=>h
 |c::d,v,k,hd,h=>by
  have hc:=wc (hd c (by simp));have h2:v*10+dS c<10^(k+1):=by rw[abx];omega
  have:=JR d (v*10+dS c) (k+1) (λ c h=>hd c (by simp[h])) h2;rw[aaT,show k+(d.length+1)=k+1+d.length by omega];exact this
theorem IZ{c:UInt8}(h:aP c=true):u8.wrap ((c.toNat:Int)-48)=(dS c:Int):=by have:=(iD c).1 h;unfold dS;rw[wrap_u8]<;>omega
def rS(t:Tx):Int×Bool:=
 if 3<(t.ex.dropWhile (· == 48)).length then(0,false)
 else
  let n:Int:=if t.en=true then -(dq (t.ex.dropWhile (· == 48)):Int) else(dq (t.ex.dropWhile (· == 48)):Int)
  (n,decide (-400<=n)&&decide (n<=400))
def rV(m:Int)(x:Nat):Nat×Nat:=if 0<m then(x*10^m.toNat,1) else(x,10^(-m).toNat)
def et(s:aE):Nat×Int:=
 if (splitB s).2=false then(0,2)
 else if 60<(splitB s).1.whole.length+(splitB s).1.part.length then(0,4)
 else if (rS (splitB s).1).2=false then(0,5)
 else
  let r:=rV ((rS (splitB s).1).1-(splitB s).1.part.length) (dq ((splitB s).1.whole++(splitB s).1.part))
  if (iQ r.1 r.2).2=false then(0,5) else(tD (splitB s).1.neg (iQ r.1 r.2).1,0)
theorem yN(s:aE):∀c∈s.takeWhile aP,aP c=true:=by
 intro c hc
 induction s with
 |nil=>simp at hc
 |cons a s ih=>
  rw[List.takeWhile_cons]at hc;split at hc
  ·rename_i h;rcases List.mem_cons.1 hc with rfl|hc
   ·exact h
   ·exact ih hc
  ·simp at hc
theorem PL(neg:Bool)(w p s:aE):(kE neg w p s).1.whole=w/\(kE neg w p s).1.part=p:=by
 unfold kE;split
 ·exact⟨rfl,rfl⟩
 ·split
  ·exact⟨rfl,rfl⟩
  ·split<;>exact⟨rfl,rfl⟩
theorem JO(d:aE)(hd:∀c∈d,aP c=true):dq d<10^d.length:=by
 have:=JR d 0 0 hd (by decide)
 rwa[abv]at this
theorem QO{m:Int}{x:Nat}(hx:x<10^60)(h1:-500<=m)(h2:m<=500):tX (rV m x).1/\tX (rV m x).2/\0<(rV m x).2:=by
 unfold rV;split
 ·refine⟨?_,Uy,Nat.one_pos⟩;refine hO (Nat.lt_trans ?_ (fH (n:=60+m.toNat) (by omega)));rw[abC];exact abO hx (abt (by decide))
 ·exact⟨hO (Nat.lt_trans hx (fH (by decide))),hO (fH (by omega)),abt (by decide)⟩
theorem MV(c:UInt8):P2 c=true↔(48<=c.toNat/\c.toNat<=57)\/(97<=c.toNat/\c.toNat<=102)\/(65<=c.toNat/\c.toNat<=70):=by unfold P2;simp only[Bool.or_eq_true,Bool.and_eq_true,decide_eq_true_eq];omega
theorem AM(c:UInt8)(h:P2 c=true):fE c<16:=by
 have:=(MV c).1 h;unfold fE;split
 ·omega
 ·split<;>omega
open Go.Proofs Go.RowKit Go.Sort
set_option maxRecDepth 100000
theorem mixed:prog.follows .mixedOrders=true:=by kernel_rfl
theorem names : (prog.funcs.toList.all λ f => f.name != "runtime.NumGoroutine") = true := by kernel_rfl
theorem gK (k : Nat) (fn : Func) (h : prog.funcs[k]? = some fn) : fn.name ≠ "runtime.NumGoroutine" := by
 have h1:fn∈prog.funcs.toList:=by rw[<-Array.getElem?_toList]at h;exact abQ h
 have:=abu.1 names fn h1;simpa using this
theorem y8{G:Sg}{x:V}{vs:Array Value}(hr:eY G [x] vs.toList):∃v,vs=#[v]/\RV G x v:=by
 obtain⟨v,hv,hx⟩:=eY.get hr (i:=0) rfl;have hl:=eY.length hr;refine⟨v,?_,hx⟩;apply Array.ext'
 match hvs:vs.toList,hl,hv with
 | [y],_,hv=>simp at hv;subst hv;rfl
theorem y9{G:Sg}{x y:V}{vs:Array Value}(hr:eY G [x,y] vs.toList):∃v u,vs=#[v,u]/\RV G x v/\RV G y u:=by
 obtain⟨v,hv,hx⟩:=eY.get hr (i:=0) rfl;obtain⟨u,hu,hy⟩:=eY.get hr (i:=1) rfl;have hl:=eY.length hr;refine⟨v,u,?_,hx,hy⟩;apply Array.ext'
 match hvs:vs.toList,hl,hv,hu with
 | [a,b],_,hv,hu=>simp at hv hu;subst hv;subst hu;rfl
theorem below_grow(w:World)(k:Nat)(os:Array Obj):Below w.heap.size w (grow (w.drewN k) os):=
 ⟨rfl,rfl,rfl,by simp[grow,World.drewN],λ i hi=>heap_grow_old _ _ (by simpa using hi)⟩
theorem lu{k:Nat}{args:List V}{S:List Ob}{x:D}{v:Value}{fn:Func}(hf:prog.funcs[k]?=some fn)(hb:fn.body.isSome=true)(hx:∀F,RD F x v)
  (h:∀w G vs,Inv w G S->eY G args vs.toList->Calls prog k vs w λ e w'=>e = .returned v/\(w'=w\/∃n os,w'=grow (w.drewN n) os)):cx prog k args S (.d x,S):=by
 refine cx.of_below λ w G vs hI hr=>?_;refine gL.of_calls hf hb (gK k fn hf) ((h w G vs hI hr).mono ?_);rintro e w' ⟨rfl,hw⟩;refine⟨v,rfl,?_,by simp only[RV];exact hx _⟩;rcases hw with rfl|⟨n,os,rfl⟩
 ·exact Below.refl _ _
 ·exact below_grow _ _ _
theorem II {w : World} {G : Sg} {S : List Ob} (hI : Inv w G S) : Lib.TabIs prog w "internal/strconv.uint64pow10" .u64 Lib.pow10Tab := by
 obtain⟨⟨arr,x,y,e,rfl⟩,_⟩:=hI.tb 0 _ rfl;have hg : prog.globalNamed "internal/strconv.uint64pow10" = some 0 := by kernel_rfl
 unfold Lib.TabIs World.var?;rw[hg];simp only[Option.bind_some,e]
theorem decDigits_eq(n:Nat):Lib.decDigits n=cB n:=by
 induction n using Nat.strongRecOn with
 |ind n ih=>
  rw[Lib.decDigits,kk];split
  ·rfl
  ·rw[ih _ (by omega)]
theorem JB(n:Int):Lib.itoa n=cU n:=by unfold Lib.itoa cU;split<;>rw[decDigits_eq]
theorem Mg(n:Nat)(h:n<4294967296):Lib.bitLen n=bJ n:=by
 by_cases h0:n=0
 ·subst h0;rfl
 ·obtain⟨a,b,c⟩:=Lib.bitLenAux_bounds 64 n (by omega) h0
  have hb:Lib.bitLen n=Lib.bitLenAux 64 n:=rfl;rw[hb];have:=B5 (n:=n) (k:=Lib.bitLenAux 64 n-1) b (by rw[Nat.sub_add_cancel a];exact c);omega
theorem yV{args:List V}{S:List Ob}{o:Out}(h:jT args S=some o):cx prog 117 args S o:=by
 unfold jT at h;split at h
 ·rename_i x c;split at h
  ·rename_i hc;injection h with h;subst h
   refine lu (v := .string ⟨(Lib.trimRightB x c).toArray⟩) Tryz.func117 (by kernel_rfl) (λ F=>by simp only[RD];rfl) λ w G vs hI hr=>?_;obtain⟨v,u,rfl,h1,h2⟩:=y9 hr;simp only[RV,RD]at h1 h2;subst h1;subst h2;have hs:(⟨x.toArray⟩:ByteArray).size<=9223372036854775807:=by show x.toArray.size<=_;simp;omega
   exact(Tryz.strings_TrimRight_one ⟨x.toArray⟩ c hc.1 w hs).mono λ e w' h=>⟨h.1,.inl h.2⟩
  ·cases h
 ·cases h
theorem EK{k:Nat}{args:List V}{S:List Ob}{x:V}{v:Value}{fn:Func}(hf:prog.funcs[k]?=some fn)(hb:fn.body.isSome=true)(hx:∀G,RV G x v)
  (h:∀w G vs,Inv w G S->eY G args vs.toList->Calls prog k vs w λ e w'=>e = .returned v/\Below w.heap.size w w'):cx prog k args S (x,S):=by
 refine cx.of_below λ w G vs hI hr=>?_;refine gL.of_calls hf hb (gK k fn hf) ((h w G vs hI hr).mono ?_);rintro e w' ⟨rfl,hw⟩;exact⟨v,rfl,hw,hx _⟩
theorem XC{w:World}{G:Sg}{S:List Ob}(hI:Inv w G S):∃m:Int,w.cell? ⟨1,0,none⟩=some (.int .i64 m):=by obtain⟨⟨arr,x,y,e,m,rfl⟩,_⟩:=hI.tb 1 _ rfl;exact⟨m,by simp[World.cell?,e]⟩
theorem find_index(t:aE):∀x:aE,Lib.index x t=aay (jI t x)
 | []=>by
  unfold Lib.index jI;cases t<;>rfl
 |c::r=>by
  have ih:=find_index t r;unfold Lib.index jI;rw[ih]
  cases h:t.isPrefixOf (c::r) with
  |true=>rfl
  |false=>
   rw[aaN (show ¬(false=true) by decide),aaN (show ¬(false=true) by decide)]
   cases jI t r with
   |none=>rfl
   |some n=>
    have hn:((n:Int) == -1)=false:=abr.2 (by omega);show (if ((n:Int) == -1)=true then(-1:Int) else(n:Int)+1)=_;rw[hn,aaN (by decide)];show _=((n+1:Nat):Int);omega
theorem zC(t x:aE):Lib.contains x t=(jI t x).isSome:=by
 unfold Lib.contains;rw[find_index]
 cases jI t x with
 |none=>rfl
 |some n=>exact aa3 (Int.natCast_nonneg n)
theorem U4(x:aE)(h:x.length<=100000):(⟨x.toArray⟩:ByteArray).size<4294967281:=by show x.toArray.size<_;simp;omega
theorem zq{args:List V}{S:List Ob}{o:Out}(h:kA args S=some o):cx prog 57 args S o:=by
 unfold kA at h;split at h
 ·rename_i x t;split at h
  ·rename_i hc;injection h with h;subst h
   refine lu (v := .bool (Lib.contains x t)) Tryz.func57 (by kernel_rfl) (λ F=>by simp only[RD];rw[zC]) λ w G vs hI hr=>?_;obtain⟨v,u,rfl,h1,h2⟩:=y9 hr;simp only[RV,RD]at h1 h2;subst h1;subst h2;obtain⟨m,hm⟩:=XC hI;exact(Tryz.strings_Contains ⟨x.toArray⟩ ⟨t.toArray⟩ m w (U4 x hc.1) hm).mono λ e w' h=>⟨h.1,.inl h.2⟩
  ·cases h
 ·cases h
theorem MX{args:List V}{S:List Ob}{o:Out}(h:sJ args S=some o):cx prog 118 args S o:=by
 unfold sJ at h;split at h
 ·rename_i n;split at h
  ·rename_i hc;injection h with h;subst h
   refine lu (v := .string ⟨(Lib.itoa n).toArray⟩) Tryz.func118 (by kernel_rfl) (λ F=>by simp only[RD];rw[JB]) λ w G vs hI hr=>?_;obtain⟨v,rfl,h1⟩:=y8 hr;simp only[RV,RD]at h1;subst h1;exact(Tryz.strconv_Itoa n (by omega) (by omega) w (II hI)).mono λ e w' h=>⟨h.1,.inr h.2⟩
  ·cases h
 ·cases h
theorem Cv{args:List V}{S:List Ob}{o:Out}(h:kc args S=some o):cx prog 167 args S o:=by
 unfold kc at h;split at h
 ·rename_i n b;split at h
  ·rename_i hc;injection h with h;subst h
   obtain⟨rfl,hc1,hc2⟩:=hc;refine lu (v := .string ⟨(Lib.decDigits n.toNat).toArray⟩) Tryz.func167 (by kernel_rfl) (λ F=>by simp only[RD];rw[decDigits_eq]) λ w G vs hI hr=>?_;obtain⟨v,u,rfl,h1,h2⟩:=y9 hr;simp only[RV,RD]at h1 h2;subst h1;subst h2;have e:n=((n.toNat:Nat):Int):=by omega
   have:=Tryz.strconv_FormatUint_10 n.toNat (by omega) w (II hI);rw[<-e]at this;exact this.mono λ e w' h=>⟨h.1,.inr h.2⟩
  ·cases h
 ·cases h
theorem HQ{args:List V}{S:List Ob}{o:Out}(h:pI args S=some o):cx prog 163 args S o:=by
 unfold pI at h;split at h
 ·rename_i n;split at h
  ·rename_i hc;injection h with h;subst h
   refine lu (v := .int .i64 (Lib.bitLen n.toNat)) Tryz.func163 (by kernel_rfl) (λ F=>by simp only[RD];rw[Mg _ (by omega)]) λ w G vs hI hr=>?_;obtain⟨v,rfl,h1⟩:=y8 hr;simp only[RV,RD]at h1;subst h1;exact(Tryz.bits_Len32 n w (by omega) (by omega)).mono λ e w' h=>⟨h.1,.inl h.2⟩
  ·cases h
 ·cases h
theorem uR{xs:List D}{a:List Int}(h:lU .u32 xs=some a):xs=ints .u32 a:=by
 induction xs generalizing a with
 |nil=>simp[lU]at h;subst h;rfl
 |cons x xs ih=>
  cases x<;>simp only[lU]at h<;>try (cases h)
  rename_i j n;split at h
  ·rename_i e;subst e;obtain⟨l,hl,rfl⟩:=Option.map_eq_some_iff.1 h;rw[ih hl];rfl
  ·cases h
theorem r7{xs:List V}{a:List Int}(h:iX xs=some a):xs=cellsOf a:=by
 induction xs generalizing a with
 |nil=>simp[iX]at h;subst h;rfl
 |cons x xs ih=>
  unfold iX at h;split at h
  ·rename_i e;cases e
  ·rename_i e;injection e with e1 e2;subst e1;subst e2
   obtain⟨l,hl,rfl⟩:=Option.map_eq_some_iff.1 h;rw[ih hl];rfl
  ·cases h
theorem JY{a:List Int}(h:Wd a=true):ep a/\a.length<=100000:=by simp only[Wd,Bool.and_eq_true,decide_eq_true_eq,abu]at h;exact⟨λ z hz=>by have:=h.1 z hz;exact this,h.2⟩
theorem YY:oV prog qL:=by intro k g hg;simp[qL]at hg
theorem aap:oV prog Fq:=by intro k g hg;simp[Fq]at hg
theorem Mq{args:List V}{S:List Ob}{o:Out}(h:nN args S=some o):cx prog 162 args S o:=by
 unfold nN at h;split at h
 ·rename_i b xs;split at h
  ·rename_i a ha;split at h
   ·rename_i hok;injection h with h;subst h
    obtain⟨hu,hl⟩:=JY hok;rw[uR ha];have:=O8 b a hu (by omega);exact iy mixed aap gK (iL (by rw[this];simp[G3,cellsOf,ints]))
   ·cases h
  ·cases h
 ·rename_i n cs;split at h
  ·rename_i a ha;split at h
   ·rename_i hok;injection h with h;subst h
    obtain⟨rfl,hok⟩:=hok;obtain⟨hu,hl⟩:=JY hok;rw[r7 ha];exact iy mixed YY gK (iL (DK a hu (by omega)))
   ·cases h
  ·cases h
 ·cases h
theorem Mo{args:List V}{S:List Ob}{o:Out}(h:sr args S=some o):cx prog 164 args S o:=by
 unfold sr at h;split at h
 ·rename_i n m ds cs;split at h
  ·rename_i a b ha hb;split at h
   ·rename_i hok;injection h with h;subst h
    obtain⟨rfl,rfl,hok1,hok2⟩:=hok;obtain⟨hu1,hl1⟩:=JY hok1;obtain⟨hu2,hl2⟩:=JY hok2;rw[r7 ha,r7 hb];exact iy mixed YY gK (iL (O4 a b hu1 hu2 hl1 hl2))
   ·cases h
  ·cases h
 ·cases h
theorem Ua:oV prog oT:=by
 intro k g hg args S o ho;simp only[oT,YZ]at hg;split at hg
 ·injection hg with hg;subst hg;exact Mq ho
 ·injection hg with hg;subst hg;exact Mo ho
 ·cases hg
theorem Rq{args:List V}{S:List Ob}{o:Out}(h:yJ args S=some o):cx prog 218 args S o:=by
 unfold yJ at h;split at h
 ·rename_i b xs c ys;split at h
  ·rename_i a e ha he;split at h
   ·rename_i hok;injection h with h;subst h
    obtain⟨h1,h2,h3,h4⟩:=hok;have u1:ep a:=λ z hz=>by have:=abu.1 h1 z hz;simpa using this
    have u2:ep e:=λ z hz=>by have:=abu.1 h2 z hz;simpa using this
    rw[uR ha,uR he];exact iy mixed Ua gK (iL (U8 b c a e u1 u2 h3 h4))
   ·cases h
  ·cases h
 ·cases h
theorem D4:oV prog aK:=by
 intro k g hg args S o ho;simp only[aK,ext]at hg;split at hg
 ·injection hg with hg;subst hg;exact yV ho
 ·injection hg with hg;subst hg;exact MX ho
 ·injection hg with hg;subst hg;exact Cv ho
 ·injection hg with hg;subst hg;exact HQ ho
 ·injection hg with hg;subst hg;exact Rq ho
 ·injection hg with hg;subst hg;exact zq ho
 ·cases hg
open Go.Proofs Go.Proofs.YtbjllhjbhdjfjaaGreatDoor Go.RowKit
def EV : List (String × DataW Unit) := [("math/bits.deBruijn32tab", Rows.laid_math_bits_deBruijn32tab), ("math/bits.deBruijn64tab", Rows.laid_math_bits_deBruijn64tab), ("internal/strconv.uint64pow10", Rows.laid_internal_strconv_uint64pow10), ("unicode/utf8.acceptRanges", Rows.laid_unicode_utf8_acceptRanges), ("unicode/utf8.first", Rows.laid_unicode_utf8_first)]
theorem QG:(Rows.laid_internal_strconv_uint64pow10:DataW Unit)=Lib.tabData .u64 Lib.pow10Tab:=by kernel_rfl
theorem XD{W:World}(h:W.ShapedOpen prog):∃m,W.cell? ⟨1,0,none⟩=some (.int .i64 m):=
 cell_of_shapedOpen_int (g:=1) (t:=3) (zero:=#[.int .i64 0]) h (by decide) (by kernel_rfl) rfl (by kernel_rfl) (by kernel_rfl) Tryz.underlying3
theorem NU {W : World} {r : List (String × DataW Unit)} (hs : W.ShapedOpen prog) (h3 : laidMet prog (("internal/strconv.uint64pow10", Rows.laid_internal_strconv_uint64pow10) :: r) W) : wN W := by
 rw[QG]at h3;have ht : Lib.TabIs prog W "internal/strconv.uint64pow10" .u64 Lib.pow10Tab :=
  Lib.tabIs_of_head (g:=0) (t:=214) (e:=49) (n:=20) (by kernel_rfl) (by kernel_rfl) Tryz.underlying214 Tryz.underlying49 (by kernel_rfl) (by kernel_rfl) h3
 intro b p hb;unfold yT at hb;split at hb
 ·rename_i e;subst e;injection hb with hb;subst hb
  have hg : prog.globalNamed "internal/strconv.uint64pow10" = some 0 := by kernel_rfl
  unfold Lib.TabIs World.var? at ht;rw[hg]at ht;simp only[Option.bind_some]at ht;split at ht
  ·rename_i cs x y hc;injection ht with ht;subst ht
   exact⟨_,x,y,hc,rfl⟩
  ·cases ht
 ·split at hb
  ·rename_i e;subst e;injection hb with hb;subst hb
   obtain⟨cs,hh,hsz,_⟩:=hs.1 1 #[.int .i64 0] 3 (by decide) (by kernel_rfl);obtain⟨m,hm⟩:=XD hs;have hsz1:cs.size=1:=hsz;have h1:0<cs.size:=by omega
   have hcell:W.cell? ⟨1,0,none⟩=some cs[0]:=by simp[World.cell?,hh,h1]
   rw[hcell]at hm;refine⟨cs,3,_,hh,m,?_⟩;apply Array.ext
   ·exact hsz1
   ·intro i hi1 hi2;have:i=0:=by omega
    subst this;exact Option.some.inj hm
  ·cases hb
theorem qM{H:Type}{enc:TypeId×Value->H}{C:Checked}{os:Os}{f:FuncId}{fn:Func}{s:ChangeSpec}{conds:List PathCond}{apart fresh handsOn again:Bool}{X:World->Array Value->Prop}
  (hX:∀(w w':World) (args:Array Value),w.heap=w'.heap->X w args->X w' args)
  (own:ownKnob C.prog.godebug=none) (started:os.Started) (noInit:C.prog.inits.idxOf? f=none) (hfn:C.prog.funcs[f]?=some fn)
  (witness:∃(w:World) (tape:Tape) (i:Input),w.os=os/\(w.forCall tape i).Shaped C.prog/\i.vars=[]/\Input.okWide C.prog (w.forCall tape i) .any w.heap.size f i/\
   ((s.pre enc C.prog fn conds apart (w.forCall tape i).memory i.args/\X (w.forCall tape i).memory i.args)/\sizedMet enc C.prog fn (OpenSpec.ofChange s) apart (w.forCall tape i).memory i.args)/\Assume.holds {} C.prog (lone (Frame.enter C.prog f i.args .normal) [] (w.forCall tape i)))
  (walk:∀(W:World) (base:Nat) (args:Array Value) (ds gs:List (DataW H)) (before:List MemPlace),
   (∀(j:Nat) t v,fn.params[j]?=some t->args[j]?=some v->Value.okWide C.prog W .any base t v)->
   DataW.Whole enc C.prog fn.params.toList s.vars apart W args.toList ds gs before->X W args->W.ShapedOpen C.prog->
   Calls C.prog f args W λ e W'=>∃v,e = .returned v/\s.post enc C.prog fn apart fresh handsOn again W args v W'):
  ReturnsInHanded {} C os f .any (λ w args=>(s.pre enc C.prog fn conds apart w args/\X w args)/\sizedMet enc C.prog fn (OpenSpec.ofChange s) apart w args) (s.post enc C.prog fn apart fresh handsOn again):=by
 refine returnsInHanded_of_calls own started noInit witness λ w tape i _ hsh _ hok hpre _=>?_;obtain⟨⟨⟨ds,gs,before,hw,_⟩,hx⟩,_⟩:=hpre;obtain⟨_,_,_,fn',hfn',_,_,_,_,hval⟩:=hok;rw[hfn]at hfn';cases hfn';refine(walk (w.forCall tape i) w.heap.size i.args ds gs before hval (DataW.Whole.of_heap (w':=w.forCall tape i) (by rfl) hw) (hX _ (w.forCall tape i) _ (by rfl) hx) hsh).mono λ e W' h=>?_;obtain⟨v,rfl,hp⟩:=h;exact ChangeSpec.post_blind hp
theorem Rs{W:World}(hs:W.ShapedOpen prog)(h:laidMetH prog EV W):wN W:=by rw[MakeChecks.laidMetH_plain _ _ _ (by kernel_rfl)]at h;exact NU hs h.tail.tail
end Go.Dn.Dec
