/- Numbers as rows of words, the least ahead. -/
import Derived.Test.YtbjllhjbhdjfjaaGreatDoorP4
import Derived.Test.YtbjllhjbhdjfjaaGreatDoorProg
import Derived.KernelRfl
import Derived.Shelf.Strings.Trim
import Derived.Shelf.Small.Bits
import Derived.Shelf.Small.Strs
import Derived.Shelf.Strconv.Itoa0
import Derived.Shelf.Strconv.Itoa1
import Derived.Shelf.LaysM
import Derived.Shelf.Strconv.Itoa2
import Derived.Shelf.Strconv.Itoa3
import Derived.Shelf.Strings.Search1
import Derived.Shelf.Strings.Search2
import Derived.Shelf.Strings.Search3
import Derived.Shelf.Strings.Prefix
import Derived.Shelf.Unicode.DecodeAny
import Derived.WalkKit
import Derived.WalkSpells
import Derived.WalkLawsBesides
import Derived.Lib.AppendIntMem
import Derived.Shelf.Strings.SlTrimAscii
import Derived.Test.YtbjllhjbhdjfjaaGreatDoorRows
import Derived.Lib.LaidTab
import Derived.Stop.LaidErr
import Derived.Shelf.Vars
import Derived.Handed
import Derived.ProofKit
import Derived.OpenShut
import Derived.LaidMore
import Derived.Lay
set_option linter.unusedVariables false
set_option linter.unusedSimpArgs false
set_option linter.unusedSectionVars false
namespace Go.Dn.Dec
open Go.IntKind (i64 u64 u8 u16 i32 u32)
open Go.Proofs.Tryz (prog)
abbrev EQ(p:Pol)(t:Task)(r:Tr):Prop:=rk prog p t=aC (rk prog p) r
theorem bU{p:Pol}{t:Task}{r:Tr}(h:pG prog p t=r:=by kernel_rfl):EQ p t r:=aE h
def W:Nat:=4294967296
theorem iw:0<W:=by decide
def aV:List Int->Nat
 | []=>0
 |z::zs=>z.toNat+W*aV zs
def aQ(n:Nat):List Int:=
 if n=0 then [] else(n%W:Nat)::aQ (n / W)
termination_by n
decreasing_by exact Nat.div_lt_self (by omega) (by decide)
theorem cc:aQ 0=[]:=by rw[aQ];simp
theorem fi{n:Nat}(h:n≠0):aQ n=((n%W:Nat):Int)::aQ (n / W):=by rw[aQ,if_neg h]
def dR(a:List Int):Prop:=∀z∈a,0<=z/\z<4294967296
theorem dR.cons{z:Int}{a:List Int}:dR (z::a)↔(0<=z/\z<4294967296)/\dR a:=by simp[dR]
theorem dR.nil:dR []:=by simp[dR]
theorem dR.take{a:List Int}(h:dR a)(n:Nat):dR (a.take n):=λ z hz=>h z (List.mem_of_mem_take hz)
theorem dR.append{a b:List Int}(h:dR a)(k:dR b):dR (a++b):=λ z hz=>(List.mem_append.1 hz).elim (h z) (k z)
theorem cU(n:Nat):dR (aQ n):=by
 induction n using Nat.strongRecOn with
 |ind n ih=>
  by_cases h:n=0
  ·subst h;rw[cc];exact dR.nil
  ·rw[fi h];refine dR.cons.2 ⟨?_,ih _ (Nat.div_lt_self (by omega) (by decide))⟩;have:=Nat.mod_lt n iw;unfold W at *;omega
theorem cQ(n:Nat):aV (aQ n)=n:=by
 induction n using Nat.strongRecOn with
 |ind n ih=>
  by_cases h:n=0
  ·subst h;rw[cc];rfl
  ·rw[fi h,aV,ih _ (Nat.div_lt_self (by omega) (by decide))]
   have:=Nat.mod_add_div n W;simp only[Int.toNat_natCast];omega
theorem ef(a b:List Int):aV (a++b)=aV a+W^a.length*aV b:=by
 induction a with
 |nil=>simp[aV]
 |cons z a ih=>
  rw[List.cons_append,aV,aV,ih,List.length_cons,Nat.pow_succ,Nat.mul_add,Nat.mul_assoc,Nat.mul_left_comm W];rw[Nat.add_assoc]
theorem pK{a:List Int}(h:dR a):aV a<W^a.length:=by
 induction a with
 |nil=>simp[aV]
 |cons z a ih=>
  obtain⟨hz,ha⟩:=dR.cons.1 h;have:=ih ha;rw[aV,List.length_cons,Nat.pow_succ];have h1:z.toNat<W:=by unfold W;omega
  have:W*aV a+W<=W^a.length*W:=by rw[Nat.mul_comm W,<-Nat.succ_mul];exact Nat.mul_le_mul_right _ this
  omega
theorem LA{a:List Int}(h:dR a)(hl:∀z,a.getLast?=some z->z≠0):aQ (aV a)=a:=by
 induction a with
 |nil=>exact cc
 |cons z a ih=>
  obtain⟨hz,ha⟩:=dR.cons.1 h;have hzW:z.toNat<W:=by unfold W;omega
  have ih':aQ (aV a)=a:=ih ha λ y hy=>hl y (by rw[List.getLast?_cons];simp[hy]);have hne:aV (z::a)≠0:=by
   intro h0;rw[aV]at h0;have hz0:z=0:=by omega
   have ha0:aV a=0:=by
    rcases Nat.eq_zero_or_pos (aV a)with h|h
    ·exact h
    ·have:=Nat.mul_pos iw h;omega
   rw[ha0,cc]at ih';subst ih';exact hl z (by simp) hz0
  rw[fi hne,aV,Nat.add_mul_mod_self_left,Nat.mod_eq_of_lt hzW,Nat.add_mul_div_left _ _ iw,Nat.div_eq_of_lt hzW,Nat.zero_add,ih'];congr 1;omega
def nl(n:Nat):D := .l (decide (n=0)) (ints .u32 (aQ n))
theorem fJ(n:Nat):aQ n=[]↔n=0:=by
 constructor
 ·intro h;rw[<-cQ n,h];rfl
 ·intro h;subst h;exact cc
theorem fM(a:List Int)(n:Nat)(h:a[n]?=some 0):aV (a.take (n+1))=aV (a.take n):=by rw[List.take_add_one,h,ef];simp[aV]
def Wl:List (Nat×List (Nat×List Nat)):=
 [(19,[(23,[0,5]),(263,[0,5])]),
 (43,[(1011,[0,3,38]),(4083,[0,3,77])]),
 (44,[(61,[0,2,28]),(253,[0,2,45])]),
 (50,[(31,[0,3]),(639,[3,4,5,6]),(2047,[3,6,7]),(8191,[3,6,7,8])]),
 (90,[(487,[0,2,3,34]),(31,[0,2,3])]),
 (92,[(13,[0,2,42]),(61,[0,2,77]),(27,[0,2,103]),(30207,[0,2,7,8,9]),(62975,[0,7,8]),(32255,[0,7,10]),(2047,[0,7])]),
 (93,[(55,[0,2,4,60])]),
 (112,[(15,[4,5])]),
 (136,[(2,[0,1]),(24,[0,1,26])]),
 (140,[(127,[0,1,6]),(255,[0,1,6])]),
 (141,[(7,[0,12])]),
 (142,[(27,[0,3,18]),(119,[0,3,41]),(3767,[0,3,5,51])]),
 (143,[(351,[4,5,6,18])]),
 (144,[(511,[4,7,8]),(4095,[9])]),
 (161,[(351,[1,5,6,38,39,40])]),
 (162,[(19,[0,3]),(195,[0,3,15])]),
 (164,[(87,[0,1,5])]),
 (165,[(43,[1,5,18,19,20]),(44235,[1,5,6,7,8,18,19,20,25,26,27])]),
 (166,[(13,[0,9]),(39,[0,3])]),
 (168,[(43,[0,3,7,8])]),
 (169,[(55,[5,31])]),
 (184,[(55,[0,2,22]),(111,[0,2,41]),(447,[0,2,53])]),
 (185,[(175,[1,4,5,14]),(127,[5])]),
 (186,[(43,[0,3,6])]),
 (187,[(23,[0,1,6]),(455,[0,1,6,7,8])]),
 (196,[(87,[1,5,6,13,14,15])]),
 (198,[(175,[0,1,4,5,7]),(14639,[0,1,4,5,7])]),
 (199,[(7,[0,1]),(175,[1,5,6,20,21,22]),(62255,[1,5,6,20,21,22])]),
 (212,[(13,[0,15])]),
 (213,[(19,[0,4]),(195,[0,4,20])]),
 (218,[(175,[0,1,6,19,20]),(62255,[0,1,7,8,19,20]),(521007,[0,1,6,7,8,9,19,20])]),
 (150,[(27,[0,4,28]),(107,[0,4]),(159,[0,4,5,6,7]),(1567,[0,4,5,6,7,55]),(3359,[0,4,5,6,7]),(447,[0,4,5,7,79]),(45055,[4,5,7,8,11,12]),(131071,[4,11,13])]),
 (48,[(15,[0,3]),(447,[3,4,5,33]),(511,[3,4,5]),(2047,[3,6,7]),(10239,[3,6,7,8]),(32767,[3,6,7,8]),(458751,[3,8,10,104]),(1048575,[3,8,14]),(10485759,[3,8,15,16]),(102760447,[3,8,15,16,130])]),
 (188,[(27,[0,18]),(223,[0,5,33]),(2815,[0,5,6,7]),(201471,[0,5,6,7,57])]),
 (109,[(87,[0,1,5,6,7]),(791,[0,1,5,6,7,21])]),
 (105,[(43,[0,1,5,6]),(10827,[0,1,5,6,7,8])]),
 (106,[(87,[0,3,4])]),
 (189,[(23,[0,1,6]),(7111,[6,9,59])]),
 (102,[(43,[0,1,5,6]),(1611,[0,1,5,6,31])]),
 (103,[(39,[3,4]),(391,[3,4,18])]),
 (107,[(175,[0,1,7,8,9]),(1839,[0,1,7,8,9])]),
 (108,[(21,[0,1,5])]),
 (100,[(11,[0,3])]),
 (152,[(19,[0,3]),(195,[0,3,15])]),
 (215,[(7,[0,1])]),
 (154,[(175,[0,1,6,7,8])]),
 (20,[(47,[5,6])]),
 (21,[(43,[0,1,5])]),
 (45,[(2,[0]),(24,[0,20]),(212,[0,2,30]),(980,[0,52]),(2516,[0]),(25044,[0,87]),(38868,[0,3]),(399316,[0,3,125])]),
 (46,[(127,[0,2,3,4,5]),(3903,[0,2,3,4,5,72]),(16191,[0,2,3,4,5,83]),(57151,[0,2,3,115]),(65343,[0,2,3,4,118]),(622399,[0,2,3,4,6]),(6389567,[0,2,3,4,6,152]),(1802047,[0,2,3,6,170]),(393023,[0,2,3,4,7])]),
 (97,[(19,[0,2,3]),(195,[0,2,3,55]),(351,[0,2,3,4,5]),(12895,[0,2,3,4,5,103])]),
 (99,[(27,[0,2,3,38]),(55,[0,2,3,62]),(447,[0,2,3,4,97]),(895,[0,2,3,4,140]),(3455,[0,2,3,4,5]),(7551,[0,2,3,4,5,186]),(4095,[0,2,6,7])]),
 (145,[(121,[0,9]),(505,[0,20])]),
 (146,[(159,[0,2,3,4,5]),(1567,[0,2,3,4,5,46]),(511,[0,2,3,5,6])]),
 (147,[(19,[0,3]),(195,[0,3,29])]),
 (149,[(27,[0,4,16]),(351,[0,4,5,6]),(447,[4,5,47])]),
 (151,[(61,[0,4,6,47])])]
def cut(k:Nat)(p:List Bool):Option (List Nat):=(Wl.lookup k).bind λ l=>l.lookup (p.foldl (λ n b=>2*n+b.toNat) 1)
def SL:List (Nat×Nat×Nat×Nat):=[(161,8,8,0),(196,1,3,0),(199,3,3,0),(162,4,3,0),(165,1,6,1),(198,4,2,1),(93,5,20,3),(19,8,8,3),(92,25,7,3),(44,9,15,3),(90,7,9,3),(140,10,10,3),(152,4,4,0),(105,1,6,1),(102,1,7,1),(107,3,3,1)]
def app(k r i:Nat):Nat:=((SL.find? λ x=>x.1==k&&x.2.1==r&&x.2.2.1==i).map (·.2.2.2)).getD 2
def lv(k:IntKind):List D->Option (List Int)
 | []=>some []
 | .i j n::xs=>if j=k then(lv k xs).map (n :: ·)else none
 |_=>none
def GY:Nat->Nat->mP
 |0,n=>[UInt8.ofNat (48+n)]
 |k+1,n=>if n<10 then [UInt8.ofNat (48+n)]else GY k (n / 10)++[UInt8.ofNat (48+n%10)]
def cC(n:Nat):mP:=GY n n
theorem Ji:∀(k j n:Nat),n<=k->n<=j->GY k n=GY j n
 |0,0,_,_,_=>rfl
 |0,j+1,n,h,_=>by
  have:n=0:=by omega
  subst this;rfl
 |k+1,0,n,_,h=>by
  have:n=0:=by omega
  subst this;rfl
 |k+1,j+1,n,h1,h2=>by
  rw[GY,GY];split
  ·rfl
  ·rw[Ji k j (n / 10) (by omega) (by omega)]
theorem jZ(n:Nat):cC n=if n<10 then [UInt8.ofNat (48+n)]else cC (n / 10)++[UInt8.ofNat (48+n%10)]:=by
 unfold cC
 cases n with
 |zero=>rfl
 |succ k=>
  rw[GY];split
  ·rfl
  ·rw[Ji k ((k+1) / 10) ((k+1) / 10) (by omega) (by omega)]
def cZ(n:Int):mP:=if n<0 then 45::cC n.natAbs else cC n.toNat
def trimRightB(c:UInt8)(x:mP):mP:=(x.reverse.dropWhile (· == c)).reverse
def bE(n:Nat):Nat:=if n=0 then 0 else n.log2+1
def jH(args:List V)(S:List Ob):Option Out:=
 match args with
 | [.d (.s x),.d (.s [c])]=>if c.toNat<128/\x.length<=1000000 then some (.d (.s (trimRightB c x)),S)else none
 |_=>none
def ig(args:List V)(S:List Ob):Option Out:=
 match args with
 | [.d (.s x),.d (.s [c])]=>if c.toNat<128 then some (.d (.s (x.dropWhile (· == c))),S)else none
 | [.d (.s x),.d (.s [43,45])]=>if x.length<=100000 then some (.d (.s (x.dropWhile λ c=>c==43||c==45)),S)else none
 |_=>none
def sE(args:List V)(S:List Ob):Option Out:=
 match args with
 | [.d (.i .i64 n)]=>if -1000000<n/\n<1000000 then some (.d (.s (cZ n)),S)else none
 |_=>none
def jT(args:List V)(S:List Ob):Option Out:=
 match args with
 | [.d (.i .u64 n),.d (.i .i64 b)]=>if b=10/\0<=n/\n<18446744073709551616 then some (.d (.s (cC n.toNat)),S)else none
 |_=>none
def o9(args:List V)(S:List Ob):Option Out:=
 match args with
 | [.d (.i .u32 n)]=>if 0<=n/\n<4294967296 then some (.d (.i .i64 (bE n.toNat:Nat)),S)else none
 |_=>none
def Mx(x y:Nat):V:=if x<y then .t [.d (.l true []),.d (.b false)]else .t [.d (nl (x-y)),.d (.b true)]
def yO(args:List V)(S:List Ob):Option Out:=
 match args,S with
 | [.d (.l _ xs),.d (.l _ ys)],[]=>match lv .u32 xs,lv .u32 ys with
  |some a,some b=>if (a.all λ z=>decide (0<=z)&&decide (z<4294967296))=true/\(b.all λ z=>decide (0<=z)&&decide (z<4294967296))=true/\a.length<=100000/\b.length<=100000 then some (Mx (aV a) (aV b),[])else none
  |_,_=>none
 |_,_=>none
def cH(t:mP):mP->Option Nat
 | []=>if t.isPrefixOf []=true then some 0 else none
 |c::r=>if t.isPrefixOf (c::r)=true then some 0 else(cH t r).map (· + 1)
def qj(o:Option Nat):Int:=match o with|some n=>(n:Int)|none=>-1
def gS(args:List V)(S:List Ob):Option Out:=
 match args with
 | [.d (.s x),.d (.s t)]=>if x.length<=100000/\t.length<=100000 then some (.d (.b (cH t x).isSome),S)else none
 |_=>none
def lj(args:List V)(S:List Ob):Option Out:=
 match args with
 | [.d (.s x),.d (.s t)]=>if x.length<=100000/\t.length<=100000 then some (.d (.i .i64 (qj (cH t x))),S)else none
 |_=>none
def gk(args:List V)(S:List Ob):Option Out:=
 match args with
 | [.d (.s x),.d (.i .u8 c)]=>if x.length<=100000/\0<=c/\c<256 then some (.d (.i .i64 (qj (x.findIdx? λ d=>d==UInt8.ofNat c.toNat))),S)else none
 |_=>none
def mQ(args:List V)(S:List Ob):Option Out:=
 match args with
 | [.d (.s x),.d (.s t)]=>if x.length<=100000/\t.length<=100000 then some (.d (.b (t.isSuffixOf x)),S)else none
 |_=>none
def cG(c:UInt8):Nat:=if c.toNat<=57 then c.toNat-48 else if 97<=c.toNat then c.toNat-87 else c.toNat-55
def iP(l:mP):Nat:=l.foldl (λ a c=>a*16+cG c) 0
def qy(c:UInt8):Bool:=(decide (48<=c.toNat)&&decide (c.toNat<=57))||(decide (97<=c.toNat)&&decide (c.toNat<=102))||(decide (65<=c.toNat)&&decide (c.toNat<=70))
def lT(args:List V)(S:List Ob):Option Out:=
 match args with
 | [.d (.s x),.d (.i .i64 b),.d (.i .i64 z)]=>if b=16/\z=64/\x≠[]/\x.length<=16/\x.all qy=true then some (.t [.d (.i .u64 (iP x:Nat)),.nifc],S)else none
 |_=>none
def ext(k:Nat):Option (List V->List Ob->Option Out):=
 match k with
 |117=>some jH
 |183=>some ig
 |118=>some sE
 |167=>some jT
 |163=>some o9
 |218=>some yO
 |57=>some gS
 |123=>some lj
 |85=>some gk
 |138=>some mQ
 |182=>some lT
 |_=>none
def mh(k r i:Nat):Fl:=if k=19 then [(4,5)]else []
def aF:Pol:={ cut:=cut,app:=app,mh:=mh,ext:=ext }
def iJ:List V->Option (List Int)
 | []=>some []
 | .d (.i .u32 n)::xs=>(iJ xs).map (n :: ·)
 |_=>none
def Su(a:List Int):Bool:=(a.all λ z=>decide (0<=z)&&decide (z<4294967296))&&decide (a.length<=100000)
def GU(a:List Int):List V:=a.map λ z=>V.d (.i .u32 z)
def nA(args:List V)(S:List Ob):Option Out:=
 match args,S with
 | [.d (.l _ xs)],[]=>match lv .u32 xs with
  |some a=>if Su a=true then some (.m 0 0 (aQ (aV a)).length,[.cells (GU (aQ (aV a))) []])else none
  |none=>none
 | [.m 0 0 n],[.cells cs []]=>match iJ cs with
  |some a=>if n=a.length/\Su a=true then some (.d (nl (aV a)),[.cells cs []])else none
  |none=>none
 |_,_=>none
def se(args:List V)(S:List Ob):Option Out:=
 match args,S with
 | [.m 0 0 n,.m 1 0 m],[.cells ds [],.cells cs []]=>match iJ cs,iJ ds with
  |some a,some b=>if n=a.length/\m=b.length/\Su a=true/\Su b=true then some (.d (.i .i64 (if aV a<aV b then -1 else if aV b<aV a then 1 else 0)),[.cells ds [],.cells cs []])else none
  |_,_=>none
 |_,_=>none
def kG:Pol:={ cut:=cut,app:=app,mh:=λ _ _ _=>[],ext:=λ _=>none }
def zM:Pol:={ cut:=cut,app:=λ k _ _=>if k=162 then 1 else 2,mh:=λ _ _ _=>[],ext:=λ _=>none }
def U8(k:Nat):Option (List V->List Ob->Option Out):=
 match k with
 |162=>some nA
 |164=>some se
 |_=>none
def lF:Pol:={ cut:=cut,app:=app,mh:=λ _ _ _=>[],ext:=U8,fresh:=λ k=>k==162 }
open Go.Proofs
theorem a51(n:Nat)(cs:List V):EQ kG (.call 162 [.m 0 0 n] [.cells cs []]) (.call (.at_ 162 1 (fw 19) (qt (.m 0 0 n) (n:Int)) [] [.cells cs []]) .ret):=bU
theorem We(n:Nat)(cs ds:List V):EQ kG (.call 162 [.m 1 0 n] [.cells ds [],.cells cs []]) (.call (.at_ 162 2 (fw 19) (qt (.m 1 0 n) (n:Int)) [] [.cells ds [],.cells cs []]) .ret):=bU
theorem XT(n m:Nat)(cs ds:List V):EQ kG (.call 164 [.m 0 0 n,.m 1 0 m] [.cells ds [],.cells cs []]) (c1 (.call 162 [.m 0 0 n] [.cells cs []]) cs.length [] λ a b=>aL a λ c e=>c2 (.call 162 [.m 1 0 m] [.cells ds [],.cells b []]) ds.length [] b.length [] λ f g h=>aL f λ j k=>aM (decide ((e.length:Int)<(k.length:Int))) (.ret (vi (-1),[.cells g [],.cells h []])) (aM (decide ((e.length:Int)>(k.length:Int))) (.ret (vi 1,[.cells g [],.cells h []])) (.call (.at_ 164 2 (fw 87) (BE c e j k (i64.wrap ((e.length:Int)-1))) [] [.cells g [],.cells h []]) .ret))):=bU
theorem DA(m0:Nat)(n1:Int)(l2:List V):EQ kG (.at_ 162 1 (fw 19) (qt (.m 0 0 m0) n1) [] [.cells l2 []]) (aM (decide (n1>0)) (aH (decide (0<=i64.wrap (n1-1)/\i64.wrap (n1-1)<(m0:Int))) (ob l2[0+(i64.wrap (n1-1)).toNat]? λ a=>bm a λ c=>bR .u32 c λ e => .call (.at_ 162 1 (fw 195) (uL (.m 0 0 m0) n1 (e==0)) [] [.cells l2 []]) .ret)) (.call (.at_ 162 1 (fw 195) (uL (.m 0 0 m0) n1 false) [] [.cells l2 []]) .ret)):=bU
theorem wV(m0:Nat)(n1:Int)(l2 l3:List V):EQ kG (.at_ 162 2 (fw 19) (qt (.m 1 0 m0) n1) [] [.cells l2 [],.cells l3 []]) (aM (decide (n1>0)) (aH (decide (0<=i64.wrap (n1-1)/\i64.wrap (n1-1)<(m0:Int))) (ob l2[0+(i64.wrap (n1-1)).toNat]? λ a=>bm a λ c=>bR .u32 c λ e => .call (.at_ 162 2 (fw 195) (uL (.m 1 0 m0) n1 (e==0)) [] [.cells l2 [],.cells l3 []]) .ret)) (.call (.at_ 162 2 (fw 195) (uL (.m 1 0 m0) n1 false) [] [.cells l2 [],.cells l3 []]) .ret)):=bU
theorem DB(b0:Bool)(l1:List D)(b2:Bool)(l3:List D)(n4:Int)(l5 l6:List V):EQ kG (.at_ 164 2 (fw 87) (BE b0 l1 b2 l3 n4) [] [.cells l5 [],.cells l6 []]) (aM (decide (n4 ≥ 0)) (eC l1 n4 1 0 λ a=>bR .u32 a λ b=>eC l3 n4 1 0 λ c=>bR .u32 c λ e=>aM (decide (b<e)) (.ret (vi (-1),[.cells l5 [],.cells l6 []])) (eC l1 n4 1 0 λ f=>bR .u32 f λ g=>eC l3 n4 1 0 λ h=>bR .u32 h λ j=>aM (decide (g>j)) (.ret (vi 1,[.cells l5 [],.cells l6 []])) (.call (.at_ 164 2 (fw 87) (BE b0 l1 b2 l3 (i64.wrap (n4-1))) [] [.cells l5 [],.cells l6 []]) .ret))) (.ret (vi 0,[.cells l5 [],.cells l6 []]))):=bU
theorem tM(m0:Nat)(n1:Int)(b2:Bool)(l3:List V):EQ kG (.at_ 162 1 (fw 195) (uL (.m 0 0 m0) n1 b2) [] [.cells l3 []]) (aM b2 (.call (.at_ 162 1 (fw 19) (qt (.m 0 0 m0) (i64.wrap (n1-1))) [] [.cells l3 []]) .ret) (aH (decide (0<=n1/\n1<=(m0:Int))) (ob (dn [.cells l3 []] 1 (.m 0 0 (n1.toNat-0))) λ a=>aH (bw 1 a) (aH (decide (0+a.length<=4294967296)) (.ret (vl a.isEmpty ([]++a),[.cells l3 []])))))):=bU
theorem oI(m0:Nat)(n1:Int)(b2:Bool)(l3 l4:List V):EQ kG (.at_ 162 2 (fw 195) (uL (.m 1 0 m0) n1 b2) [] [.cells l3 [],.cells l4 []]) (aM b2 (.call (.at_ 162 2 (fw 19) (qt (.m 1 0 m0) (i64.wrap (n1-1))) [] [.cells l3 [],.cells l4 []]) .ret) (aH (decide (0<=n1/\n1<=(m0:Int))) (ob (dn [.cells l3 [],.cells l4 []] 1 (.m 1 0 (n1.toNat-0))) λ a=>aH (bw 1 a) (aH (decide (0+a.length<=4294967296)) (.ret (vl a.isEmpty ([]++a),[.cells l3 [],.cells l4 []])))))):=bU
theorem c51(b:Bool)(xs:List D):EQ zM (.call 162 [vl b xs] []) (.call (.at_ 162 0 (fw 19) (rn b xs (xs.length:Int)) [] []) .ret):=bU
theorem DL(b0:Bool)(l1:List D)(n2:Int):EQ zM (.at_ 162 0 (fw 19) (rn b0 l1 n2) [] []) (aM (decide (n2>0)) (eC l1 (i64.wrap (n2-1)) 1 0 λ a=>bR .u32 a λ c => .call (.at_ 162 0 (fw 195) (uv b0 l1 n2 (c==0)) [] []) .ret) (.call (.at_ 162 0 (fw 195) (uv b0 l1 n2 false) [] []) .ret)):=bU
theorem X4(b:Bool)(xs:List D)(c:Bool)(ys:List D):EQ lF (.call 218 [vl b xs,vl c ys] []) (.call (.call 162 [vl b xs] []) λ a=>SS a λ e f => .call (.call 162 [vl c ys] []) λ g=>SS g λ h j=>c2 (.call 164 [.m 0 0 f,.m 1 0 j] [.cells h [],.cells e []]) h.length [] e.length [] λ k n o=>aI k λ p=>aM (decide (p<0)) (.ret (.t [vl true [],vb false],[])) (.call (.at_ 218 0 (fw 175) (IC (.m 0 0 f) (.m 1 0 j) 0 (f:Int) 0) [] [.cells n [],.cells o []]) .ret)):=bU
theorem BB(m0 m1:Nat)(n2 n3 n4:Int)(l5 l6:List V):EQ lF (.at_ 218 0 (fw 175) (IC (.m 0 0 m0) (.m 1 0 m1) n2 n3 n4) [] [.cells l5 [],.cells l6 []]) (aM (decide (n4<n3)) (aM (decide (n4<(m1:Int))) (aH (decide (0<=n4/\n4<(m1:Int))) (ob l5[0+n4.toNat]? λ a=>bm a λ c=>bR .u32 c λ e => .call (.at_ 218 0 (fw 62255) (Mn (.m 0 0 m0) (.m 1 0 m1) n4 (u64.wrap (n2+u64.wrap e)) n3 n4) [] [.cells l5 [],.cells l6 []]) .ret)) (.call (.at_ 218 0 (fw 62255) (Mn (.m 0 0 m0) (.m 1 0 m1) n4 n2 n3 n4) [] [.cells l5 [],.cells l6 []]) .ret)) (c1 (.call 162 [.m 0 0 m0] [.cells l6 []]) l6.length [] λ f g=>aL f λ h j => .ret (.t [vl h j,vb true],[]))):=bU
theorem FZ(m0 m1:Nat)(n2 n3 n4 n5:Int)(l6 l7:List V):EQ lF (.at_ 218 0 (fw 62255) (Mn (.m 0 0 m0) (.m 1 0 m1) n2 n3 n4 n5) [] [.cells l6 [],.cells l7 []]) (aH (decide (0<=n2/\n2<(m0:Int))) (ob l7[0+n2.toNat]? λ a=>bm a λ b=>bR .u32 b λ c=>aM (decide (u64.wrap c<n3)) (.call (.at_ 218 0 (fw 521007) (OF (.m 0 0 m0) (.m 1 0 m1) 1 n2 n3 (u64.wrap (u64.wrap c+4294967296)) n4 n5) [] [.cells l6 [],.cells l7 []]) .ret) (.call (.at_ 218 0 (fw 521007) (OF (.m 0 0 m0) (.m 1 0 m1) 0 n2 n3 (u64.wrap c) n4 n5) [] [.cells l6 [],.cells l7 []]) .ret))):=bU
theorem C4(m0 m1:Nat)(n2 n3 n4 n5 n6 n7:Int)(l8 l9:List V):EQ lF (.at_ 218 0 (fw 521007) (OF (.m 0 0 m0) (.m 1 0 m1) n2 n3 n4 n5 n6 n7) [] [.cells l8 [],.cells l9 []]) (aH (decide (0<=n3/\n3<(m0:Int))) (aH (decide (0+n3.toNat<l9.length)&&true) (.call (.at_ 218 0 (fw 175) (IC (.m 0 0 m0) (.m 1 0 m1) n2 n6 (i64.wrap (n7+1))) [] [.cells l8 [],.cells (l9.set (0+n3.toNat) (.d (.i .u32 (u32.wrap (u64.wrap (n5-n4)))))) []]) .ret))):=bU
theorem f51(b:Bool)(xs:List D):EQ aF (.call 162 [vl b xs] []) (.call (.at_ 162 0 (fw 19) (rn b xs (xs.length:Int)) [] []) .ret):=bU
theorem WA(n:Nat)(cs:List V):EQ aF (.call 162 [.m 0 0 n] [.cells cs []]) (.call (.at_ 162 1 (fw 19) (qt (.m 0 0 n) (n:Int)) [] [.cells cs []]) .ret):=bU
theorem f23(n:Int):EQ aF (.call 160 [vu n] []) (cV (.call 162 [vl true [.i .u32 (u32.wrap n),.i .u32 (u32.wrap (n.fdiv 4294967296))]] []) λ a=>aL a λ b c => .ret (vl b c,[])):=bU
theorem f25(n:Int):EQ aF (.call 166 [vi n] []) (aM (decide (n<0)) (.call (.at_ 166 0 (fw 13) (sv 18 [(0,vi n),(9,vb true)]) [] []) .ret) (.call (.at_ 166 0 (fw 13) (sv 18 [(0,vi n),(9,vb (decide (n>1000)))]) [] []) .ret)):=bU
theorem f52(b:Bool)(xs:List D)(n:Int):EQ aF (.call 196 [vl b xs,.d (.i .u32 n)] []) (aH (decide (0<=i64.wrap ((xs.length:Int)+1))) (aH (decide (i64.wrap ((xs.length:Int)+1)<=4294967296)) (.call (.at_ 196 0 (fw 87) (Re (.d (.i .u32 n)) false [] 0 b xs (xs.length:Int) 0) [(5,1)] []) .ret))):=bU
theorem f24(b:Bool)(xs:List D)(c:Bool)(ys:List D):EQ aF (.call 165 [vl b xs,vl c ys] []) (aH (decide (0<=i64.wrap (i64.wrap ((xs.length:Int)+(ys.length:Int))+1))) (aH (decide (i64.wrap (i64.wrap ((xs.length:Int)+(ys.length:Int))+1)=i64.wrap (i64.wrap ((xs.length:Int)+(ys.length:Int))+1))) (aH (decide (i64.wrap (i64.wrap ((xs.length:Int)+(ys.length:Int))+1)<=4294967296)) (.call (.at_ 165 0 (fw 43) (Et c ys (.m 0 0 (i64.wrap (i64.wrap ((xs.length:Int)+(ys.length:Int))+1)).toNat) b xs (xs.length:Int) 0) [] [.cells (List.replicate (i64.wrap (i64.wrap ((xs.length:Int)+(ys.length:Int))+1)).toNat (.d (.i .u32 0))) []]) .ret)))):=bU
theorem f50(b:Bool)(xs:List D)(c:Bool)(ys:List D):EQ aF (.call 199 [vl b xs,vl c ys] []) (aM (decide ((xs.length:Int)<(ys.length:Int))) (.call (.at_ 199 0 (fw 7) (sv 56 [(0,vl c ys),(1,vl b xs)]) [] []) .ret) (.call (.at_ 199 0 (fw 7) (sv 56 [(0,vl b xs),(1,vl c ys)]) [] []) .ret)):=bU
theorem f53(b:Bool)(xs:List D)(n:Int):EQ aF (.call 161 [vl b xs,vi n] []) (cV (.call 162 [vl b xs] []) λ a=>aL a λ c e=>aM (decide (n<i64.wrap (-32*i64.wrap ((e.length:Int)+1)))) (.ret (vl true [],[])) (aM (decide (n<0)) (cV (.call 195 [vl c e,vi (i64.wrap (0-n))] []) λ f=>aL f λ g h => .ret (vl g h,[])) (aM ((e.length:Int)==0) (.ret (vl true [],[])) (aH (decide (0<=i64.wrap (n.tdiv 32))) (aH (decide (i64.wrap (n.tdiv 32)<=i64.wrap (i64.wrap (i64.wrap (n.tdiv 32)+(e.length:Int))+1))) (aH (decide (i64.wrap (i64.wrap (i64.wrap (n.tdiv 32)+(e.length:Int))+1)<=4294967296)) (.call (.at_ 161 0 (fw 351) (Pl n false (List.replicate (i64.wrap (n.tdiv 32)).toNat (.i .u32 0)) 0 c e (e.length:Int) 0) [(5,1)] []) .ret))))))):=bU
theorem f74(b:Bool)(xs:List D)(c:Bool)(ys:List D):EQ aF (.call 198 [vl b xs,vl c ys] []) (cV (.call 162 [vl b xs] []) λ a=>aL a λ e f=>cV (.call 162 [vl c ys] []) λ g=>aL g λ h j=>aM ((j.length:Int)==0) (.ret (.t [vl true [],vl true [],vb false],[])) (aH (decide ((f.length:Int)=(f.length:Int))) (aH (decide ((f.length:Int)<=4294967296)) (cV (.call 113 [vl e f] []) λ k=>aI k λ n => .call (.at_ 198 0 (fw 175) (JB e f h j (.m 0 0 (f.length:Int).toNat) true [] (i64.wrap (n-1))) [(5,1)] [.cells (List.replicate (f.length:Int).toNat (.d (.i .u32 0))) []]) .ret)))):=bU
theorem f34(b:Bool)(xs:List D):EQ aF (.call 113 [vl b xs] []) (cV (.call 162 [vl b xs] []) λ a=>aL a λ c e=>aM ((e.length:Int)==0) (.ret (vi 0,[])) (eC e (i64.wrap ((e.length:Int)-1)) 1 0 λ f=>bR .u32 f λ g=>cV (.call 163 [.d (.i .u32 g)] []) λ h=>aI h λ j => .ret (vi (i64.wrap (i64.wrap (32*i64.wrap ((e.length:Int)-1))+j)),[]))):=bU
theorem f62(b:Bool)(xs:List D)(c:Bool)(ys:List D):EQ aF (.call 164 [vl b xs,vl c ys] []) (cV (.call 162 [vl b xs] []) λ a=>aL a λ e f=>cV (.call 162 [vl c ys] []) λ g=>aL g λ h j=>aM (decide ((f.length:Int)<(j.length:Int))) (.ret (vi (-1),[])) (aM (decide ((f.length:Int)>(j.length:Int))) (.ret (vi 1,[])) (.call (.at_ 164 0 (fw 87) (BE e f h j (i64.wrap ((f.length:Int)-1))) [] []) .ret))):=bU
theorem f56(b:Bool)(xs:List D):EQ aF (.call 168 [vl b xs] []) (.call (.at_ 168 0 (fw 43) (IJ b xs 0 (if 2<(xs.length:Int)then 2 else(xs.length:Int)) 0) [] []) .ret):=bU
theorem Ev(b0:Bool)(l1:List D)(n2:Int):EQ aF (.at_ 162 0 (fw 19) (rn b0 l1 n2) [] []) (aM (decide (n2>0)) (eC l1 (i64.wrap (n2-1)) 1 0 λ a=>bR .u32 a λ c => .call (.at_ 162 0 (fw 195) (uv b0 l1 n2 (c==0)) [] []) .ret) (.call (.at_ 162 0 (fw 195) (uv b0 l1 n2 false) [] []) .ret)):=bU
theorem xF(m0:Nat)(n1:Int)(l2:List V):EQ aF (.at_ 162 1 (fw 19) (qt (.m 0 0 m0) n1) [] [.cells l2 []]) (aM (decide (n1>0)) (aH (decide (0<=i64.wrap (n1-1)/\i64.wrap (n1-1)<(m0:Int))) (ob l2[0+(i64.wrap (n1-1)).toNat]? λ a=>bm a λ c=>bR .u32 c λ e => .call (.at_ 162 1 (fw 195) (uL (.m 0 0 m0) n1 (e==0)) [] [.cells l2 []]) .ret)) (.call (.at_ 162 1 (fw 195) (uL (.m 0 0 m0) n1 false) [] [.cells l2 []]) .ret)):=bU
theorem NJ(n0:Int)(b1:Bool):EQ aF (.at_ 166 0 (fw 13) (sv 18 [(0,vi n0),(9,vb b1)]) [] []) (aM b1 (.ret (vl true [],[])) (cV (.call 160 [vu 1] []) λ a=>aL a λ c e => .call (.at_ 166 0 (fw 39) (sv 18 [(0,vi n0),(3,vl c e)]) [] []) .ret)):=bU
theorem Ew(n0:Int)(b1:Bool)(l2:List D)(n3:Int)(b4:Bool)(l5:List D)(n6 n7:Int):EQ aF (.at_ 196 0 (fw 87) (Re (.d (.i .u32 n0)) b1 l2 n3 b4 l5 n6 n7) [(5,1)] []) (aM (decide (n7<n6)) (eC l5 n7 1 0 λ a=>bR .u32 a λ b=>aH (bw 1 l2) (aH (b1||true) (aH (decide (l2.length+1<=4294967296)) (.call (.at_ 196 0 (fw 87) (Re (.d (.i .u32 n0)) (b1&&false) (l2++[.i .u32 (u32.wrap (u64.wrap (n3+u64.wrap (u64.wrap b*u64.wrap n0))))]) ((u64.wrap (n3+u64.wrap (u64.wrap b*u64.wrap n0))).fdiv 4294967296) b4 l5 n6 (i64.wrap (n7+1))) [(5,1)] []) .ret)))) (aH (bw 1 l2) (aH (b1||true) (aH (decide (l2.length+1<=4294967296)) (cV (.call 162 [vl (b1&&false) (l2++[.i .u32 (u32.wrap n3)])] []) λ c=>aL c λ e f => .ret (vl e f,[])))))):=bU
theorem Ei(b0:Bool)(l1:List D)(m2:Nat)(b3:Bool)(l4:List D)(n5 n6:Int)(l7:List V):EQ aF (.at_ 165 0 (fw 43) (Et b0 l1 (.m 0 0 m2) b3 l4 n5 n6) [] [.cells l7 []]) (aM (decide (n6<n5)) (eC l4 n6 1 0 λ a=>bR .u32 a λ b => .call (.at_ 165 0 (fw 44235) (Og b0 l1 (.m 0 0 m2) n6 (.d (.i .u32 b)) 0 b3 l4 n5 n6 b0 l1 (l1.length:Int) 0) [] [.cells l7 []]) .ret) (c1 (.call 162 [.m 0 0 m2] [.cells l7 []]) l7.length [] λ c e=>aL c λ f g => .ret (vl f g,[]))):=bU
theorem QM(b0:Bool)(l1:List D)(b2:Bool)(l3:List D):EQ aF (.at_ 199 0 (fw 7) (sv 56 [(0,vl b0 l1),(1,vl b2 l3)]) [] []) (aH (decide (0<=i64.wrap ((l1.length:Int)+1))) (aH (decide (i64.wrap ((l1.length:Int)+1)<=4294967296)) (.call (.at_ 199 0 (fw 175) (NF b2 l3 false [] 0 b0 l1 (l1.length:Int) 0) [(5,1)] []) .ret))):=bU
theorem AE(n0:Int)(b1:Bool)(l2:List D)(n3:Int)(b4:Bool)(l5:List D)(n6 n7:Int):EQ aF (.at_ 161 0 (fw 351) (Pl n0 b1 l2 n3 b4 l5 n6 n7) [(5,1)] []) (aM (decide (n7<n6)) (eC l5 n7 1 0 λ a=>bR .u32 a λ b=>aH (decide (0<=n0.tmod 32)) (aH (bw 1 l2) (aH (b1||true) (aH (decide (l2.length+1<=4294967296)) (.call (.at_ 161 0 (fw 351) (Pl n0 (b1&&false) (l2++[.i .u32 (u32.wrap (u64.wrap ((BitVec.ofInt u64.bits n3 ||| BitVec.ofInt u64.bits (u64.wrap (u64.wrap b*2^min (n0.tmod 32).toNat 64))).toNat:Int)))]) ((u64.wrap ((BitVec.ofInt u64.bits n3 ||| BitVec.ofInt u64.bits (u64.wrap (u64.wrap b*2^min (n0.tmod 32).toNat 64))).toNat:Int)).fdiv 4294967296) b4 l5 n6 (i64.wrap (n7+1))) [(5,1)] []) .ret))))) (aH (bw 1 l2) (aH (b1||true) (aH (decide (l2.length+1<=4294967296)) (cV (.call 162 [vl (b1&&false) (l2++[.i .u32 (u32.wrap n3)])] []) λ c=>aL c λ e f => .ret (vl e f,[])))))):=bU
theorem AH(b0:Bool)(l1:List D)(b2:Bool)(l3:List D)(m4:Nat)(b5:Bool)(l6:List D)(n7:Int)(l8:List V):EQ aF (.at_ 198 0 (fw 175) (JB b0 l1 b2 l3 (.m 0 0 m4) b5 l6 n7) [(5,1)] [.cells l8 []]) (aM (decide (n7 ≥ 0)) (cV (.call 161 [vl b5 l6,vi 1] []) λ a=>aL a λ c e=>eC l1 (i64.wrap (n7.tdiv 32)) 1 0 λ f=>bR .u32 f λ g=>aH (decide (0<=n7.tmod 32)) (aM (u32.wrap ((BitVec.ofInt u32.bits (g.fdiv (2^min (n7.tmod 32).toNat 32)) &&& BitVec.ofInt u32.bits 1).toNat:Int) != 0) (cV (.call 160 [vu 1] []) λ h=>aL h λ j k=>cV (.call 199 [vl c e,vl j k] []) λ n=>aL n λ o p => .call (.at_ 198 0 (fw 14639) (JB b0 l1 b2 l3 (.m 0 0 m4) o p n7) [] [.cells l8 []]) .ret) (.call (.at_ 198 0 (fw 14639) (JB b0 l1 b2 l3 (.m 0 0 m4) c e n7) [] [.cells l8 []]) .ret))) (c1 (.call 162 [.m 0 0 m4] [.cells l8 []]) l8.length [] λ q r=>aL q λ s zu=>cV (.call 162 [vl b5 l6] []) λ v=>aL v λ w x => .ret (.t [vl s zu,vl w x,vb true],[]))):=bU
theorem Ez(b0:Bool)(l1:List D)(b2:Bool)(l3:List D)(n4:Int):EQ aF (.at_ 164 0 (fw 87) (BE b0 l1 b2 l3 n4) [] []) (aM (decide (n4 ≥ 0)) (eC l1 n4 1 0 λ a=>bR .u32 a λ b=>eC l3 n4 1 0 λ c=>bR .u32 c λ e=>aM (decide (b<e)) (.ret (vi (-1),[])) (eC l1 n4 1 0 λ f=>bR .u32 f λ g=>eC l3 n4 1 0 λ h=>bR .u32 h λ j=>aM (decide (g>j)) (.ret (vi 1,[])) (.call (.at_ 164 0 (fw 87) (BE b0 l1 b2 l3 (i64.wrap (n4-1))) [] []) .ret))) (.ret (vi 0,[]))):=bU
theorem Ex(b0:Bool)(l1:List D)(n2 n3 n4:Int):EQ aF (.at_ 168 0 (fw 43) (IJ b0 l1 n2 n3 n4) [] []) (aM (decide (n4<n3)) (eC l1 n4 1 0 λ a=>bR .u32 a λ b=>aH (decide (0<=i64.wrap (32*n4))) (.call (.at_ 168 0 (fw 43) (IJ b0 l1 (u64.wrap ((BitVec.ofInt u64.bits n2 ||| BitVec.ofInt u64.bits (u64.wrap (u64.wrap b*2^min (i64.wrap (32*n4)).toNat 64))).toNat:Int)) n3 (i64.wrap (n4+1))) [] []) .ret)) (.ret (vu n2,[]))):=bU
theorem uc(b0:Bool)(l1:List D)(n2:Int)(b3:Bool):EQ aF (.at_ 162 0 (fw 195) (uv b0 l1 n2 b3) [] []) (aM b3 (.call (.at_ 162 0 (fw 19) (rn b0 l1 (i64.wrap (n2-1))) [] []) .ret) (aH (decide (0<=n2/\n2<=(l1.length:Int))) (aH (bw 1 l1) (aH (bw 1 (List.take (n2.toNat-0) (List.drop 0 l1))) (aH (decide (0+(List.take (n2.toNat-0) (List.drop 0 l1)).length<=4294967296)) (.ret (vl (List.take (n2.toNat-0) (List.drop 0 l1)).isEmpty ([]++List.take (n2.toNat-0) (List.drop 0 l1)),[]))))))):=bU
theorem oX(m0:Nat)(n1:Int)(b2:Bool)(l3:List V):EQ aF (.at_ 162 1 (fw 195) (uL (.m 0 0 m0) n1 b2) [] [.cells l3 []]) (aM b2 (.call (.at_ 162 1 (fw 19) (qt (.m 0 0 m0) (i64.wrap (n1-1))) [] [.cells l3 []]) .ret) (aH (decide (0<=n1/\n1<=(m0:Int))) (ob (dn [.cells l3 []] 1 (.m 0 0 (n1.toNat-0))) λ a=>aH (bw 1 a) (aH (decide (0+a.length<=4294967296)) (.ret (vl a.isEmpty ([]++a),[.cells l3 []])))))):=bU
theorem Ej(n0:Int)(b1:Bool)(l2:List D):EQ aF (.at_ 166 0 (fw 39) (sv 18 [(0,vi n0),(3,vl b1 l2)]) [] []) (aM (decide (n0>0)) (cV (.call 196 [vl b1 l2,.d (.i .u32 10)] []) λ a=>aL a λ b c => .call (.at_ 166 0 (fw 39) (sv 18 [(0,vi (i64.wrap (n0-1))),(3,vl b c)]) [] []) .ret) (.ret (vl b1 l2,[]))):=bU
theorem vj(b0:Bool)(l1:List D)(m2:Nat)(n3 n4 n5:Int)(b6:Bool)(l7:List D)(n8 n9:Int)(b10:Bool)(l11:List D)(n12 n13:Int)(l14:List V):EQ aF (.at_ 165 0 (fw 44235) (Og b0 l1 (.m 0 0 m2) n3 (.d (.i .u32 n4)) n5 b6 l7 n8 n9 b10 l11 n12 n13) [] [.cells l14 []]) (aM (decide (n13<n12)) (eC l11 n13 1 0 λ a=>bR .u32 a λ b=>aH (decide (0<=i64.wrap (n3+n13)/\i64.wrap (n3+n13)<(m2:Int))) (ob l14[0+(i64.wrap (n3+n13)).toNat]? λ c=>bm c λ e=>bR .u32 e λ f=>aH (decide (0<=i64.wrap (n3+n13)/\i64.wrap (n3+n13)<(m2:Int))) (aH (decide (0+(i64.wrap (n3+n13)).toNat<l14.length)&&true) (.call (.at_ 165 0 (fw 44235) (Og b0 l1 (.m 0 0 m2) n3 (.d (.i .u32 n4)) ((u64.wrap (n5+u64.wrap (u64.wrap (u64.wrap n4*u64.wrap b)+u64.wrap f))).fdiv 4294967296) b6 l7 n8 n9 b10 l11 n12 (i64.wrap (n13+1))) [] [.cells (l14.set (0+(i64.wrap (n3+n13)).toNat) (.d (.i .u32 (u32.wrap (u64.wrap (n5+u64.wrap (u64.wrap (u64.wrap n4*u64.wrap b)+u64.wrap f))))))) []]) .ret)))) (aH (decide (0<=i64.wrap (n3+(l1.length:Int))/\i64.wrap (n3+(l1.length:Int))<(m2:Int))) (aH (decide (0+(i64.wrap (n3+(l1.length:Int))).toNat<l14.length)&&true) (.call (.at_ 165 0 (fw 43) (Et b0 l1 (.m 0 0 m2) b6 l7 n8 (i64.wrap (n9+1))) [] [.cells (l14.set (0+(i64.wrap (n3+(l1.length:Int))).toNat) (.d (.i .u32 (u32.wrap n5)))) []]) .ret)))):=bU
theorem AD(b0:Bool)(l1:List D)(b2:Bool)(l3:List D)(n4:Int)(b5:Bool)(l6:List D)(n7 n8:Int):EQ aF (.at_ 199 0 (fw 175) (NF b0 l1 b2 l3 n4 b5 l6 n7 n8) [(5,1)] []) (aM (decide (n8<n7)) (eC l6 n8 1 0 λ a=>bR .u32 a λ b=>aM (decide (n8<(l1.length:Int))) (eC l1 n8 1 0 λ c=>bR .u32 c λ e => .call (.at_ 199 0 (fw 62255) (NF b0 l1 b2 l3 (u64.wrap (u64.wrap (n4+u64.wrap b)+u64.wrap e)) b5 l6 n7 n8) [(5,1)] []) .ret) (.call (.at_ 199 0 (fw 62255) (NF b0 l1 b2 l3 (u64.wrap (n4+u64.wrap b)) b5 l6 n7 n8) [(5,1)] []) .ret)) (aH (bw 1 l3) (aH (b2||true) (aH (decide (l3.length+1<=4294967296)) (cV (.call 162 [vl (b2&&false) (l3++[.i .u32 (u32.wrap n4)])] []) λ f=>aL f λ g h => .ret (vl g h,[])))))):=bU
theorem vr(b0:Bool)(l1:List D)(b2:Bool)(l3:List D)(m4:Nat)(b5:Bool)(l6:List D)(n7:Int)(l8:List V):EQ aF (.at_ 198 0 (fw 14639) (JB b0 l1 b2 l3 (.m 0 0 m4) b5 l6 n7) [] [.cells l8 []]) (cV (.call 218 [vl b5 l6,vl b2 l3] []) λ a=>cL a λ c=>aH (c.length==2) (bm (Ul c 0) λ e=>fT e λ f g=>bm (Ul c 1) λ h=>fN h λ j=>aM j (aH (decide (0<=i64.wrap (n7.tdiv 32)/\i64.wrap (n7.tdiv 32)<(m4:Int))) (ob l8[0+(i64.wrap (n7.tdiv 32)).toNat]? λ k=>bm k λ n=>bR .u32 n λ o=>aH (decide (0<=n7.tmod 32)) (aH (decide (0<=i64.wrap (n7.tdiv 32)/\i64.wrap (n7.tdiv 32)<(m4:Int))) (aH (decide (0+(i64.wrap (n7.tdiv 32)).toNat<l8.length)&&true) (.call (.at_ 198 0 (fw 175) (JB b0 l1 b2 l3 (.m 0 0 m4) f g (i64.wrap (n7-1))) [] [.cells (l8.set (0+(i64.wrap (n7.tdiv 32)).toNat) (.d (.i .u32 (u32.wrap ((BitVec.ofInt u32.bits o ||| BitVec.ofInt u32.bits (u32.wrap (1*2^min (n7.tmod 32).toNat 32))).toNat:Int))))) []]) .ret))))) (.call (.at_ 198 0 (fw 175) (JB b0 l1 b2 l3 (.m 0 0 m4) b5 l6 (i64.wrap (n7-1))) [] [.cells l8 []]) .ret))):=bU
theorem Eu(b0:Bool)(l1:List D)(b2:Bool)(l3:List D)(n4:Int)(b5:Bool)(l6:List D)(n7 n8:Int):EQ aF (.at_ 199 0 (fw 62255) (NF b0 l1 b2 l3 n4 b5 l6 n7 n8) [(5,1)] []) (aH (bw 1 l3) (aH (b2||true) (aH (decide (l3.length+1<=4294967296)) (.call (.at_ 199 0 (fw 175) (NF b0 l1 (b2&&false) (l3++[.i .u32 (u32.wrap n4)]) (n4.fdiv 4294967296) b5 l6 n7 (i64.wrap (n8+1))) [(5,1)] []) .ret)))):=bU
theorem vt(b0:Bool)(l1:List D)(b2:Bool)(l3:List D)(m4:Nat)(b5:Bool)(l6:List D)(n7:Int)(l8:List V):EQ aF (.at_ 198 0 (fw 175) (JB b0 l1 b2 l3 (.m 0 0 m4) b5 l6 n7) [] [.cells l8 []]) (aM (decide (n7 ≥ 0)) (cV (.call 161 [vl b5 l6,vi 1] []) λ a=>aL a λ c e=>eC l1 (i64.wrap (n7.tdiv 32)) 1 0 λ f=>bR .u32 f λ g=>aH (decide (0<=n7.tmod 32)) (aM (u32.wrap ((BitVec.ofInt u32.bits (g.fdiv (2^min (n7.tmod 32).toNat 32)) &&& BitVec.ofInt u32.bits 1).toNat:Int) != 0) (cV (.call 160 [vu 1] []) λ h=>aL h λ j k=>cV (.call 199 [vl c e,vl j k] []) λ n=>aL n λ o p => .call (.at_ 198 0 (fw 14639) (JB b0 l1 b2 l3 (.m 0 0 m4) o p n7) [] [.cells l8 []]) .ret) (.call (.at_ 198 0 (fw 14639) (JB b0 l1 b2 l3 (.m 0 0 m4) c e n7) [] [.cells l8 []]) .ret))) (c1 (.call 162 [.m 0 0 m4] [.cells l8 []]) l8.length [] λ q r=>aL q λ s zu=>cV (.call 162 [vl b5 l6] []) λ v=>aL v λ w x => .ret (.t [vl s zu,vl w x,vb true],[]))):=bU
def cellsOf(a:List Int):List V:=(ints .u32 a).map V.d
theorem tA:∀l:List D,ze (l.map V.d)=some l
 | []=>rfl
 |d::l=>by simp[ze,R5,tA l]
theorem eP(a:List Int):(cellsOf a).length=a.length:=by simp[cellsOf]
theorem dq(a:List Int)(i:Nat):(cellsOf a)[i]?=a[i]?.map λ z=>V.d (.i .u32 z):=by simp[cellsOf];rfl
theorem jY(a:List Int)(n:Nat)(h:n<=a.length):dn [Ob.cells (cellsOf a) []] 1 (V.m 0 0 n)=some (ints .u32 (a.take n)):=by simp only[dn,view,bT,List.length_nil,if_true];rw[if_pos (by rw[eP];omega)];simp only[List.drop_zero,cellsOf,<-List.map_take,mT,tA]
theorem iq(k:IntKind)(a:List Int):(ints k a).isEmpty=a.isEmpty:=by cases a<;>rfl
theorem oq{a:List Int}{n:Nat}(h:aQ n=a):nl n = .l a.isEmpty (ints .u32 a):=by
 unfold nl;rw[h];congr 1
 cases a with
 |nil=>simp[(fJ n).1 h]
 |cons z a=>
  have:n≠0:=λ e=>by rw[(fJ n).2 e]at h;cases h
  simp[this]
theorem iQ{a:List Int}(ha:dR a){n:Nat}(hn:n<a.length)(hz:a[n]≠0):aQ (aV (a.take (n+1)))=a.take (n+1):=by refine LA (ha.take _) λ z hz'=>?_;rw[List.getLast?_eq_getElem?,List.length_take,Nat.min_eq_left (by omega),List.getElem?_take_of_lt (by omega),Nat.add_sub_cancel,List.getElem?_eq_getElem hn]at hz';injection hz' with hz';rw[<-hz'];exact hz
theorem DT(b:Bool)(a:List Int)(ha:dR a)(hb:a.length<=1000000):∀n:Nat,n<=a.length->aV (a.take n)=aV a->
  rk prog aF (.at_ 162 0 (fw 19) (rn b (ints .u32 a) (n:Int)) [] [])=some (.d (nl (aV a)),[])
 |0,hn,hv=>by
  rw[Ev];have h0:aV a=0:=by rw[<-hv];rfl
  have e:nl (aV a) = .l true []:=by rw[h0];exact oq cc
  simp[uc,e]
 |n+1,hn,hv=>by
  rw[Ev];have hx:n<a.length:=by omega
  have gx:=List.getElem?_eq_getElem hx;have hp:(0:Int)<(n:Int)+1:=by omega
  have hw:i64.wrap (n:Int)=(n:Int):=U5;have hl:n+1<=4294967296:=by omega
  by_cases h0:a[n]=0
  ·have ih:=DT b a ha hb n (by omega) (by rw[<-hv];exact(fM a n (by rw[gx,h0])).symm)
   simp[hp,hw,gx,h0,uc,ih]
  ·have e:nl (aV a) = .l (a.take (n+1)).isEmpty (ints .u32 (a.take (n+1))):=by rw[<-hv];exact oq (iQ ha hx h0)
   have hle:(n:Int)+1<=(a.length:Int):=by omega
   have hp2:(0:Int)<=(n:Int)+1:=by omega
   have ht:((n:Int)+1).toNat=n+1:=by omega
   have hl2:n+1<=a.length:=by omega
   simp[hp,hw,gx,h0,uc,hle,hp2,ht,mT,hl,e,iq,hl2]
theorem sj(b:Bool)(a:List Int)(ha:dR a)(hb:a.length<=1000000):rk prog aF (.call 162 [vl b (ints .u32 a)] [])=some (.d (nl (aV a)),[]):=by rw[f51];simp[DT b a ha hb a.length (Nat.le_refl _) (by rw[List.take_length])]
theorem Aj(a:List Int)(ha:dR a)(hb:a.length<=1000000):∀n:Nat,n<=a.length->aV (a.take n)=aV a->
  rk prog aF (.at_ 162 1 (fw 19) (qt (V.m 0 0 a.length) (n:Int)) [] [Ob.cells (cellsOf a) []])=some (.d (nl (aV a)),[Ob.cells (cellsOf a) []])
 |0,hn,hv=>by
  rw[xF];have h0:aV a=0:=by rw[<-hv];rfl
  have e:nl (aV a) = .l true []:=by rw[h0];exact oq cc
  have hv0:=jY a 0 (by omega);simp[oX,e,hv0,ints]
 |n+1,hn,hv=>by
  rw[xF];have hx:n<a.length:=by omega
  have gx:=List.getElem?_eq_getElem hx;have hp:(0:Int)<(n:Int)+1:=by omega
  have hw:i64.wrap (n:Int)=(n:Int):=U5;have hl:n+1<=4294967296:=by omega
  have hni:(n:Int)<(a.length:Int):=by omega
  by_cases h0:a[n]=0
  ·have ih:=Aj a ha hb n (by omega) (by rw[<-hv];exact(fM a n (by rw[gx,h0])).symm)
   simp[hp,hw,hni,dq,gx,h0,oX,ih]
  ·have e:nl (aV a) = .l (a.take (n+1)).isEmpty (ints .u32 (a.take (n+1))):=by rw[<-hv];exact oq (iQ ha hx h0)
   have hle:(n:Int)+1<=(a.length:Int):=by omega
   have hp2:(0:Int)<=(n:Int)+1:=by omega
   have ht:((n:Int)+1).toNat=n+1:=by omega
   have hl2:n+1<=a.length:=by omega
   have hv1:=jY a (n+1) hl2;simp[hp,hw,hni,dq,gx,h0,oX,hle,hp2,ht,hv1,hl,e,iq,hl2]
theorem DV(a:List Int)(ha:dR a)(hb:a.length<=1000000):rk prog aF (.call 162 [V.m 0 0 a.length] [Ob.cells (cellsOf a) []])=some (.d (nl (aV a)),[Ob.cells (cellsOf a) []]):=by rw[WA];simp[Aj a ha hb a.length (Nat.le_refl _) (by rw[List.take_length])]
theorem dj(n:Int):u32.wrap n=n%4294967296:=by
 have e:((2:Int)^u32.bits)=4294967296:=by decide
 simp[IntKind.wrap,IntKind.signed,e]
theorem aT(n:Int):u64.wrap n=n%18446744073709551616:=by
 have e:((2:Int)^u64.bits)=18446744073709551616:=by decide
 simp[IntKind.wrap,IntKind.signed,e]
theorem nL(n:Nat):((n:Int)).fdiv 4294967296=((n / W:Nat):Int):=by rw[Int.fdiv_eq_ediv_of_nonneg _ (by decide)];unfold W;omega
theorem sK(n:Nat):(n:Int)%4294967296=((n%W:Nat):Int):=by unfold W;omega
theorem dZ{n:Nat}(h:n<18446744073709551616):(n:Int)%18446744073709551616=(n:Int):=by omega
theorem nP{n:Nat}(h:n<4294967296):(n:Int)%4294967296=(n:Int):=by omega
theorem of_run(n:Nat)(h:n<18446744073709551616):rk prog aF (.call 160 [vu (n:Int)] [])=some (.d (nl n),[]):=by
 rw[f23];have e:[D.i u32 (u32.wrap n),D.i u32 (u32.wrap ((n:Int).fdiv 4294967296))]=ints .u32 [((n%W:Nat):Int),((n / W:Nat):Int)]:=by rw[dj,dj,nL,sK,nP (by unfold W;omega)];rfl
 have hv:aV [((n%W:Nat):Int),((n / W:Nat):Int)]=n:=by simp only[aV,Int.toNat_natCast];have:=Nat.mod_add_div n W;omega
 have hu:dR [((n%W:Nat):Int),((n / W:Nat):Int)]:=by
  intro z hz;have h1:=Nat.mod_lt n iw;have h2:n / W<4294967296:=by unfold W;omega
  unfold W at *;simp at hz;rcases hz with rfl|rfl<;>omega
 have hc:=sj true _ hu (by simp);rw[hv]at hc;rw[e];generalize ints .u32 [((n%W:Nat):Int),((n / W:Nat):Int)]=L at hc⊢;simp[hc,nl]
theorem kU{a:List Int}{i:Nat}(h:i<a.length):aV (a.drop i)=a[i].toNat+W*aV (a.drop (i+1)):=by rw[List.drop_eq_getElem_cons h,aV]
theorem dR.get{a:List Int}(h:dR a){i:Nat}(hi:i<a.length):∃x:Nat,a[i]=(x:Int)/\x<4294967296:=by have:=h _ (List.getElem_mem hi);exact⟨a[i].toNat,by omega,by omega⟩
theorem dR.snoc{a:List Int}(h:dR a){n:Nat}(hn:n<4294967296):dR (a++[(n:Int)]):=h.append λ z hz=>by simp at hz;omega
theorem TP{x y:Nat}(hx:x<4294967296)(hy:y<4294967296):x*y<=18446744065119617025:=by have:=Nat.mul_le_mul (show x<=4294967295 by omega) (show y<=4294967295 by omega);omega
theorem II(y:Nat)(hy:y<4294967296)(b:Bool)(a:List Int)(ha:dR a)(hb:a.length<=100000):∀(d i:Nat) (b1:Bool) (out:List Int) (c:Nat),i+d=a.length->dR out->out.length=i->c<4294967296->
  rk prog aF (.at_ 196 0 (fw 87)
   (Re (V.d (D.i .u32 (y:Int))) b1 (ints .u32 out) (c:Int) b (ints .u32 a) (a.length:Int) (i:Int)) [(5,1)] [])=
  some (.d (nl (aV out+W^i*(c+aV (a.drop i)*y))),[]):=by
 intro d
 induction d with
 |zero=>
  intro i b1 out c hi hu hl hc;rw[Ew];have h3:¬((i:Int)<(a.length:Int)):=by omega
  have hd:a.drop i=[]:=List.drop_eq_nil_of_le (by omega);have hw:u32.wrap (c:Int)=(c:Int):=by rw[dj,nP hc]
  have hcut:=sj false (out++[(c:Int)]) (hu.snoc hc) (by simp;omega);have hv:aV (out++[(c:Int)])=aV out+W^i*(c+aV (a.drop i)*y):=by rw[ef,hl,hd];simp[aV]
  rw[hv]at hcut;have hlen:i<=4294967295:=by omega
  simp[h3,hw,hl,hlen,ja,hcut,nl,oF]
 |succ d ih=>
  intro i b1 out c hi hu hl hc;rw[Ew];have hx:i<a.length:=by omega
  have gx:=List.getElem?_eq_getElem hx;obtain⟨x,ex,hx32⟩:=ha.get hx;have h3:((i:Int)<(a.length:Int)):=by omega
  have hlen:i<=4294967295:=by omega
  have hm:=TP hx32 hy;have hw1:u64.wrap ((c:Int)+u64.wrap (u64.wrap (x:Int)*u64.wrap (y:Int)))=((c+x*y:Nat):Int):=by rw[aT (x:Int),aT (y:Int),dZ (by omega),dZ (by omega),<-Int.natCast_mul,aT ((x*y:Nat):Int),dZ (by omega),<-Int.natCast_add,aT,dZ (by omega)]
  have hw2:u32.wrap ((c+x*y:Nat):Int)=(((c+x*y)%W:Nat):Int):=by rw[dj,sK]
  have hw3:((c+x*y:Nat):Int).fdiv 4294967296=(((c+x*y) / W:Nat):Int):=nL _;have hw:=Wv i;have hmod:(c+x*y)%W<4294967296:=Nat.mod_lt _ iw;have hdiv:(c+x*y) / W<4294967296:=by unfold W;omega
  have ih':=ih (i+1) false (out++[(((c+x*y)%W:Nat):Int)]) ((c+x*y) / W) (by omega) (hu.snoc hmod) (by simp[hl]) hdiv;have hval:aV (out++[(((c+x*y)%W:Nat):Int)])+W^(i+1)*((c+x*y) / W+aV (a.drop (i+1))*y)=aV out+W^i*(c+aV (a.drop i)*y):=by rw[ef,hl,kU hx,ex];simp only[aV,Int.toNat_natCast,Nat.mul_zero,Nat.add_zero];rw[Nat.pow_succ,Nat.add_assoc,Nat.mul_assoc,<-Nat.mul_add];congr 2;have:=Nat.mod_add_div (c+x*y) W;rw[Nat.mul_add,<-Nat.add_assoc,this,Nat.add_mul,Nat.mul_assoc,Nat.add_assoc]
  rw[hval]at ih';rw[<-ja]at ih';generalize hT:(c+x*y:Nat)=T at hw1 hw2 hw3 ih';simp only[aO,h3,decide_true,if_true,ca,aP,bH,bQ,eJ,gx,ex,Option.map_some,Option.bind_some,kJ,kB,beq_self_eq_true,eR,Bool.or_true,cN,hl,Bool.and_false,hw1,hw2,hw3,hw,Int.toNat_natCast,List.getElem?_cons_zero,aA];rw[if_pos (by simpa using hlen)];exact ih'
theorem MF(y:Nat)(hy:y<4294967296)(b:Bool)(x:Nat)(hx:(aQ x).length<=100000):rk prog aF (.call 196 [vl b (ints .u32 (aQ x)),V.d (D.i .u32 (y:Int))] [])=some (.d (nl (x*y)),[]):=by
 rw[f52];have h:=II y hy b (aQ x) (cU x) hx (aQ x).length 0 false [] 0 (by omega) dR.nil rfl (by omega);rw[Int.natCast_zero,ER]at h;simp only[aV,Nat.pow_zero,Nat.one_mul,Nat.zero_add,List.drop_zero,cQ]at h;have hw:i64.wrap (((aQ x).length:Int)+1)=((aQ x).length:Int)+1:=U5;have h1:(0:Int)<=((aQ x).length:Int)+1:=by omega
 have h2:((aQ x).length:Int)+1<=4294967296:=by omega
 simp only[cN,hw,aP,decide_eq_true h1,decide_eq_true h2,if_true,aA];exact h
def ws(n:Nat):List D:=ints .u32 (aQ n)
def nb(n:Nat):Bool:=decide (n=0)
theorem mJ(n:Nat):nl n = .l (nb n) (ws n):=rfl
@[simp] theorem dP(n:Nat):(ws n).length=(aQ n).length:=by simp[ws]
@[simp] theorem Wb(n:Nat):bw 1 (ws n)=true:=by simp[ws]
theorem tG:ws 0=[]:=by simp[ws,cc,ints]
theorem Q9:nb 0=true:=rfl
def Fits(n:Nat):Prop:=n<W^10000
theorem AZ{n k:Nat}(h:n<W^k):(aQ n).length<=k:=by
 induction k generalizing n with
 |zero=>
  have:n=0:=by simpa using h
  rw[this,cc];simp
 |succ k ih=>
  by_cases h0:n=0
  ·rw[h0,cc];simp
  ·rw[fi h0,List.length_cons];have:n / W<W^k:=by rw[Nat.pow_succ]at h;exact Nat.div_lt_of_lt_mul (by rw[Nat.mul_comm];exact h)
   have:=ih this;omega
theorem Fits.len{n:Nat}(h:Fits n):(aQ n).length<=10000:=AZ h
theorem Fits.le{m n:Nat}(h:Fits n)(hm:m<=n):Fits m:=Nat.lt_of_le_of_lt hm h
theorem Bc(n:Nat)(h:n<18446744073709551616):rk prog aF (.call 160 [vu (n:Int)] [])=some (.d (.l (nb n) (ws n)),[]):=of_run n h
theorem PG(y:Nat)(hy:y<4294967296)(b:Bool)(x:Nat)(hx:Fits x):rk prog aF (.call 196 [vl b (ws x),V.d (D.i .u32 (y:Int))] [])=some (.d (.l (nb (x*y)) (ws (x*y))),[]):=
 MF y hy b x (by have:=hx.len;omega)
set_option exponentiation.threshold 400000 in
theorem sA{n:Nat}(h:n<10000):Fits (10^n):=
 Nat.lt_of_le_of_lt (Nat.pow_le_pow_left (show 10<=W by decide) n) (Nat.pow_lt_pow_right (by decide) h)
theorem Gn:∀(k:Nat) (v:Nat),Fits (v*10^k)->k<=1000->
  rk prog aF (.at_ 166 0 (fw 39) (sv 18 [(0,vi (k:Int)),(3,vl (nb v) (ws v))]) [] [])=some (.d (.l (nb (v*10^k)) (ws (v*10^k))),[])
 |0,v,hv,hk=>by
  rw[Ej];simp
 |k+1,v,hv,hk=>by
  rw[Ej];have hle:v<=v*10^(k+1):=Nat.le_mul_of_pos_right _ (Nat.pow_pos (by decide));have ht:rk prog aF (.call 196 [vl (nb v) (ws v),V.d (D.i .u32 10)] [])=some (.d (.l (nb (v*10)) (ws (v*10))),[]):=PG 10 (by decide) (nb v) v (hv.le hle);have e:v*10*10^k=v*10^(k+1):=by rw[Nat.pow_succ,Nat.mul_assoc,Nat.mul_comm 10]
  have ih:=Gn k (v*10) (by rw[e];exact hv) (by omega);have hp:(0:Int)<(k:Int)+1:=by omega
  have hw:i64.wrap (k:Int)=(k:Int):=U5;rw[e]at ih;simp[hp,hw,ht,ih]
theorem uM(n:Nat)(hn:n<=1000):rk prog aF (.call 166 [vi (n:Int)] [])=some (.d (.l (nb (10^n)) (ws (10^n))),[]):=by
 rw[f25];have h1:rk prog aF (.call 160 [vu 1] [])=some (.d (.l (nb 1) (ws 1)),[]):=Bc 1 (by decide);have h2:=Gn n 1 (by rw[Nat.one_mul];exact sA (by omega)) hn;rw[Nat.one_mul]at h2;have hc1:¬((n:Int)<0):=by omega
 have hc2:¬((1000:Int)<(n:Int)):=by omega
 simp[hc1,hc2,NJ,h1,h2]
theorem lZ:∀(l:List Int) (j:Nat) (z:Int) (h:j<l.length),aV (l.set j z)+W^j*l[j].toNat=aV l+W^j*z.toNat
 | [],j,z,h=>by simp at h
 |x::l,0,z,h=>by simp[aV];omega
 |x::l,j+1,z,h=>by
  have ih:=lZ l j z (by simpa using h);simp only[List.set_cons_succ,aV,List.getElem_cons_succ];rw[Nat.pow_succ,Nat.mul_comm (W^j) W,Nat.mul_assoc,Nat.mul_assoc,Nat.add_assoc,<-Nat.mul_add,ih,Nat.mul_add,Nat.add_assoc]
theorem dR.set{a:List Int}(h:dR a)(j:Nat){n:Nat}(hn:n<4294967296):dR (a.set j (n:Int)):=λ z hz=>by
 rcases List.mem_or_eq_of_mem_set hz with hz|rfl
 ·exact h z hz
 ·omega
theorem ij(a:List Int)(j:Nat)(z:Int):(cellsOf a).set j (V.d (.i .u32 z))=cellsOf (a.set j z):=by simp[cellsOf,ints,List.map_set]
theorem B0{a:List Int}{j m:Nat}(h:∀k,m<=k->k<a.length->a[k]?=some 0)(hj:j<m)(z:Int):∀k,m<=k->k<(a.set j z).length->(a.set j z)[k]?=some 0:=by intro k hk hl;rw[List.getElem?_set_ne (by omega)];exact h k hk (by simpa using hl)
def UD(by_ bx b2:Bool)(xs:List D)(y:List Int)(n i x:Nat)(c:Nat)(n8 n9:Int)(k:Nat)(out:List Int):Task:=
 Task.at_ 165 0 (fw 44235)
   (Og by_ (ints .u32 y) (V.m 0 0 n) (i:Int) (V.d (D.i .u32 (x:Int))) (c:Int) bx xs n8 n9 b2 (ints .u32 y) (y.length:Int) (k:Int))
   [] [Ob.cells (cellsOf out) []]
theorem ye(x:Nat)(hx:x<4294967296)(bx by_ b2:Bool)(xs:List D)(y:List Int)(hy:dR y)(i n:Nat)(hn:i+y.length<n)(hyl:n<=1000000)(n8 n9:Int):
  ∀(d k:Nat) (c:Nat) (out:List Int),k+d=y.length->dR out->out.length=n->c<4294967296->(∀j,i+y.length<=j->j<out.length->out[j]?=some 0)->
  ∃(c':Nat) (out':List Int),dR out'/\out'.length=n/\c'<4294967296/\(∀j,i+y.length<=j->j<out'.length->out'[j]?=some 0)/\
   aV out'+W^(i+y.length)*c'=aV out+W^(i+k)*(c+x*aV (y.drop k))/\
   rk prog aF (UD by_ bx b2 xs y n i x c n8 n9 k out)=rk prog aF (UD by_ bx b2 xs y n i x c' n8 n9 y.length out'):=by
 intro d
 induction d with
 |zero=>
  intro k c out hk hu hl hc hz;have hky:k=y.length:=by omega
  subst hky;refine⟨c,out,hu,hl,hc,hz,?_,rfl⟩;rw[List.drop_length];simp[aV]
 |succ d ih=>
  intro k c out hk hu hl hc hz;have hky:k<y.length:=by omega
  have gy:=List.getElem?_eq_getElem hky;obtain⟨w,ew,hw32⟩:=hy.get hky;have hj:i+k<out.length:=by omega
  have gj:=List.getElem?_eq_getElem hj;obtain⟨o,eo,ho32⟩:=hu.get hj;have hm:=TP hx hw32;have hT:c+(x*w+o)<18446744073709551616:=by omega
  have hmod:(c+(x*w+o))%W<4294967296:=Nat.mod_lt _ iw;have hdiv:(c+(x*w+o)) / W<4294967296:=by unfold W;omega
  obtain⟨c',out',u1,u2,u3,u4,u5,u6⟩:=ih (k+1) ((c+(x*w+o)) / W) (out.set (i+k) (((c+(x*w+o))%W:Nat):Int)) (by omega) (hu.set _ hmod) (by simpa using hl) hdiv (B0 hz (by omega) _);refine⟨c',out',u1,u2,u3,u4,?_,?_⟩
  ·rw[u5];have hs:=lZ out (i+k) (((c+(x*w+o))%W:Nat):Int) hj;rw[eo]at hs;simp only[Int.toNat_natCast]at hs;have hd:=Nat.mod_add_div (c+(x*w+o)) W;rw[kU hky,ew];simp only[Int.toNat_natCast];have e1:W^(i+(k+1))*((c+(x*w+o)) / W+x*aV (y.drop (k+1)))=W^(i+k)*(W*((c+(x*w+o)) / W))+W^(i+k)*(W*(x*aV (y.drop (k+1)))):=by rw[show i+(k+1)=(i+k)+1 from rfl,Nat.pow_succ,Nat.mul_assoc,Nat.mul_add,Nat.mul_add]
   have e2:W^(i+k)*(c+x*(w+W*aV (y.drop (k+1))))=W^(i+k)*(c+x*w)+W^(i+k)*(W*(x*aV (y.drop (k+1)))):=by rw[<-Nat.mul_add];congr 1;rw[Nat.mul_add,<-Nat.add_assoc];congr 1;rw[Nat.mul_left_comm]
   rw[e1,e2];have e3:W^(i+k)*((c+(x*w+o))%W)+W^(i+k)*(W*((c+(x*w+o)) / W))=W^(i+k)*(c+x*w)+W^(i+k)*o:=by rw[<-Nat.mul_add,hd,<-Nat.mul_add,Nat.add_assoc]
   omega
  ·rw[<-u6];unfold UD;rw[vj];have h3:((k:Int)<(y.length:Int)):=by omega
   have hw1:i64.wrap ((i:Int)+(k:Int))=((i+k:Nat):Int):=U5;have hw2:=Wv k;have hw3:u64.wrap ((c:Int)+u64.wrap (u64.wrap (u64.wrap (x:Int)*u64.wrap (w:Int))+u64.wrap (o:Int)))=((c+(x*w+o):Nat):Int):=by rw[aT (x:Int),aT (w:Int),aT (o:Int),dZ (by omega),dZ (by omega),dZ (by omega),<-Int.natCast_mul,aT ((x*w:Nat):Int),dZ (by omega),<-Int.natCast_add,aT ((x*w+o:Nat):Int),dZ (by omega),<-Int.natCast_add,aT,dZ hT]
   have hw4:u32.wrap ((c+(x*w+o):Nat):Int)=(((c+(x*w+o))%W:Nat):Int):=by rw[dj,sK]
   have hw5:((c+(x*w+o):Nat):Int).fdiv 4294967296=(((c+(x*w+o)) / W:Nat):Int):=nL _;generalize (c+(x*w+o):Nat)=T at hw3 hw4 hw5⊢;have hb1:(0:Int)<=((i+k:Nat):Int)/\((i+k:Nat):Int)<(n:Int):=by omega
   have hb2:i+k<(cellsOf out).length:=by rw[eP];exact hj
   simp only[aO,h3,decide_true,if_true,ca,aP,bH,bQ,eJ,gy,ew,Option.map_some,Option.bind_some,kJ,kB,beq_self_eq_true,hw1,hw2,Int.toNat_natCast,List.getElem?_cons_zero,aA,hb1,and_self,Nat.zero_add,dq,gj,eo,bM,hw3,hw4,hw5,hb2,Bool.and_true,decide_eq_true_eq,ij]
def Fp(by_ bx:Bool)(x y:List Int)(n i:Nat)(out:List Int):Task:=
 Task.at_ 165 0 (fw 43) (Et by_ (ints .u32 y) (V.m 0 0 n) bx (ints .u32 x) (x.length:Int) (i:Int)) [] [Ob.cells (cellsOf out) []]
theorem Q8(by_ bx:Bool)(x y:List Int)(hx:dR x)(hy:dR y)(n:Nat)(hn:n=x.length+y.length+1)(hb:n<=1000000)(i:Nat)(hi:i<x.length)(out:List Int)(hu:dR out)(hl:out.length=n)(hz:∀j,i+y.length<=j->j<out.length->out[j]?=some 0):
  ∃out',dR out'/\out'.length=n/\(∀j,(i+1)+y.length<=j->j<out'.length->out'[j]?=some 0)/\aV out'=aV out+W^i*(x[i].toNat*aV y)/\
   rk prog aF (Fp by_ bx x y n i out)=rk prog aF (Fp by_ bx x y n (i+1) out'):=by
 have gx:=List.getElem?_eq_getElem hi;obtain⟨a,ea,ha32⟩:=hx.get hi;obtain⟨c',o',u1,u2,u3,u4,u5,u6⟩:=ye a ha32 bx by_ by_ (ints .u32 x) y hy i n (by omega) hb (x.length:Int) (i:Int) y.length 0 0 out (by omega) hu hl (by decide) hz;have hj:i+y.length<o'.length:=by omega
 refine⟨o'.set (i+y.length) (c':Int),u1.set _ u3,by simpa using u2,λ j h1 h2=>?_,?_,?_⟩
 ·rw[List.getElem?_set_ne (by omega)]
  exact u4 j (by omega) (by simpa using h2)
 ·have hs:=lZ o' (i+y.length) (c':Int) hj;have h0:o'[i+y.length]=0:=by have:=u4 (i+y.length) (Nat.le_refl _) hj;rw[List.getElem?_eq_getElem hj]at this;exact Option.some.inj this
  rw[h0]at hs;simp only[Int.toNat_natCast,Int.toNat_zero,Nat.mul_zero,Nat.add_zero]at hs;rw[hs,u5,List.drop_zero,Nat.add_zero,Nat.zero_add,ea,Int.toNat_natCast]
 ·have e1:rk prog aF (Fp by_ bx x y n i out)=rk prog aF (UD by_ bx by_ (ints .u32 x) y n i a 0 (x.length:Int) (i:Int) 0 out):=by
   unfold Fp UD;rw[Ei];have h3:((i:Int)<(x.length:Int)):=by omega
   simp[h3,gx,ea]
  rw[e1,u6];unfold UD Fp;rw[vj];have h3:¬((y.length:Int)<(y.length:Int)):=by omega
  have hw1:i64.wrap ((i:Int)+(y.length:Int))=((i+y.length:Nat):Int):=U5;have hw2:=Wv i;have hw4:u32.wrap (c':Int)=(c':Int):=by rw[dj,nP u3]
  have hb1:(0:Int)<=((i+y.length:Nat):Int)/\((i+y.length:Nat):Int)<(n:Int):=by omega
  have hb2:i+y.length<(cellsOf o').length:=by rw[eP];exact hj
  simp only[aO,h3,decide_false,Bool.false_eq_true,if_false,aP,cN,hw1,hw2,hw4,Int.toNat_natCast,aA,hb1,and_self,decide_true,if_true,Nat.zero_add,hb2,Bool.and_true,decide_eq_true_eq,ij]
theorem LU(by_ bx:Bool)(x y:List Int)(hx:dR x)(hy:dR y)(n:Nat)(hn:n=x.length+y.length+1)(hb:n<=1000000):∀(d i:Nat) (out:List Int),i+d=x.length->dR out->out.length=n->(∀j,i+y.length<=j->j<out.length->out[j]?=some 0)->aV out=aV (x.take i)*aV y->
  rk prog aF (Fp by_ bx x y n i out)=some (.d (.l (nb (aV x*aV y)) (ws (aV x*aV y))),[]):=by
 intro d
 induction d with
 |zero=>
  intro i out hi hu hl hz hv;have hix:i=x.length:=by omega
  subst hix;rw[List.take_length]at hv;unfold Fp;rw[Ei];have h3:¬((x.length:Int)<(x.length:Int)):=by omega
  have hc:=DV out hu (by omega);rw[hl,hv,mJ]at hc;simp[hc]
 |succ d ih=>
  intro i out hi hu hl hz hv;have hix:i<x.length:=by omega
  obtain⟨o',u1,u2,u3,u4,u5⟩:=Q8 by_ bx x y hx hy n hn hb i hix out hu hl hz;rw[u5];refine ih (i+1) o' (by omega) u1 u2 u3 ?_;rw[u4,hv,List.take_add_one,List.getElem?_eq_getElem hix,ef];simp only[Option.toList_some,aV,Nat.mul_zero,Nat.add_zero,List.length_take,Nat.min_eq_left (Nat.le_of_lt hix)];rw[Nat.add_mul,Nat.mul_assoc]
theorem gL(n:Nat):aV (List.replicate n 0)=0:=by
 induction n with
 |zero=>rfl
 |succ n ih=>simp[List.replicate_succ,aV,ih]
theorem gE(n:Nat):List.replicate n (V.d (D.i .u32 0))=cellsOf (List.replicate n 0):=by simp[cellsOf,ints]
theorem uq(b c:Bool)(x y:Nat)(hx:Fits x)(hy:Fits y):rk prog aF (.call 165 [vl b (ws x),vl c (ws y)] [])=some (.d (.l (nb (x*y)) (ws (x*y))),[]):=by
 rw[f24];have lx:=hx.len;have ly:=hy.len
 have h:=LU c b (aQ x) (aQ y) (cU x) (cU y) ((aQ x).length+(aQ y).length+1) rfl (by omega) (aQ x).length 0 (List.replicate ((aQ x).length+(aQ y).length+1) 0) (by omega)
  (λ z hz=>by rw[List.mem_replicate]at hz;omega) (by simp) (λ j _ hj=>by simp at hj;simp[hj]) (by rw[gL];simp[aV])
 rw[cQ,cQ]at h;unfold Fp at h;rw[<-gE,Int.natCast_zero]at h;have hw1:i64.wrap (((aQ x).length:Int)+((aQ y).length:Int))=(((aQ x).length+(aQ y).length:Nat):Int):=U5;have hw2:i64.wrap ((((aQ x).length+(aQ y).length:Nat):Int)+1)=(((aQ x).length+(aQ y).length+1:Nat):Int):=U5;have c1:(0:Int)<=(((aQ x).length+(aQ y).length+1:Nat):Int):=by omega
 have c2:(((aQ x).length+(aQ y).length+1:Nat):Int)<=4294967296:=by omega
 simp only[dP,hw1,hw2,aP,decide_eq_true c1,decide_eq_true c2,decide_true,if_true,Int.toNat_natCast,aA];exact h
theorem M0(b_0 b_2 b_5:Bool)(y x:List Int)(out:List Int)(i:Nat)(T:Nat)(hl:out.length=i)(hi:i<=100000)(R:Option Out)
  (h:rk prog aF (.at_ 199 0 (fw 175)
   (NF b_0 (ints .u32 y) false (ints .u32 (out++[((T%W:Nat):Int)])) ((T / W:Nat):Int) b_5 (ints .u32 x) (x.length:Int) ((i+1:Nat):Int)) [(5,1)] [])=R):
  rk prog aF (.at_ 199 0 (fw 62255)
   (NF b_0 (ints .u32 y) b_2 (ints .u32 out) (T:Int) b_5 (ints .u32 x) (x.length:Int) (i:Int)) [(5,1)] [])=R:=by
 rw[Eu];have hw2:u32.wrap (T:Int)=((T%W:Nat):Int):=by rw[dj,sK]
 have hw3:(T:Int).fdiv 4294967296=((T / W:Nat):Int):=nL _;have hw:=Wv i;have hle:out.length+1<=4294967296:=by omega
 simp only[eR,aP,if_true,Bool.or_true,cN,decide_eq_true hle,hw2,hw3,hw,ja,Bool.and_false,aA];exact h
theorem MZ(b_0 b_5:Bool)(y x:List Int)(hx:dR x)(hy:dR y)(hb:x.length<=100000)(hyx:y.length<=x.length):∀(d i:Nat) (b1:Bool) (out:List Int) (c:Nat),i+d=x.length->dR out->out.length=i->c<4294967296->
  rk prog aF (.at_ 199 0 (fw 175)
   (NF b_0 (ints .u32 y) b1 (ints .u32 out) (c:Int) b_5 (ints .u32 x) (x.length:Int) (i:Int)) [(5,1)] [])=
  some (.d (nl (aV out+W^i*(c+aV (x.drop i)+aV (y.drop i)))),[]):=by
 intro d
 induction d with
 |zero=>
  intro i b1 out c hi hu hl hc;rw[AD];have h3:¬((i:Int)<(x.length:Int)):=by omega
  have hd:x.drop i=[]:=List.drop_eq_nil_of_le (by omega);have hd2:y.drop i=[]:=List.drop_eq_nil_of_le (by omega);have hw:u32.wrap (c:Int)=(c:Int):=by rw[dj,nP hc]
  have hcut:=sj false (out++[(c:Int)]) (hu.snoc hc) (by simp;omega);have hv:aV (out++[(c:Int)])=aV out+W^i*(c+aV (x.drop i)+aV (y.drop i)):=by rw[ef,hl,hd,hd2];simp[aV]
  rw[hv]at hcut;have hlen:i<=4294967295:=by omega
  simp[h3,hw,hl,hlen,ja,hcut,nl]
 |succ d ih=>
  intro i b1 out c hi hu hl hc;have hxi:i<x.length:=by omega
  have gx:=List.getElem?_eq_getElem hxi;obtain⟨u,eu,hu32⟩:=hx.get hxi;have h3:((i:Int)<(x.length:Int)):=by omega
  have hw1:u64.wrap ((c:Int)+u64.wrap (u:Int))=((c+u:Nat):Int):=by rw[aT (u:Int),dZ (by omega),<-Int.natCast_add,aT,dZ (by omega)]
  have key:∀T:Nat,T<18446744073709551616->(W^i*(T+W*(aV (x.drop (i+1))+aV (y.drop (i+1))))=W^i*(c+aV (x.drop i)+aV (y.drop i)))->
    rk prog aF (.at_ 199 0 (fw 62255)
   (NF b_0 (ints .u32 y) b1 (ints .u32 out) (T:Int) b_5 (ints .u32 x) (x.length:Int) (i:Int)) [(5,1)] [])=
   some (.d (nl (aV out+W^i*(c+aV (x.drop i)+aV (y.drop i)))),[]):=by
   intro T hT hv;have hmod:T%W<4294967296:=Nat.mod_lt _ iw;have hdiv:T / W<4294967296:=by unfold W;omega
   refine M0 b_0 b1 b_5 y x out i T hl (by omega) _ ?_;rw[ih (i+1) false (out++[((T%W:Nat):Int)]) (T / W) (by omega) (hu.snoc hmod) (by simp[hl]) hdiv];congr 4;rw[ef,hl,<-hv];simp only[aV,Int.toNat_natCast,Nat.mul_zero,Nat.add_zero];rw[Nat.pow_succ,Nat.add_assoc,Nat.mul_assoc,<-Nat.mul_add];congr 2;have:=Nat.mod_add_div T W;rw[Nat.add_assoc,Nat.mul_add,<-Nat.add_assoc,this]
  rw[AD];by_cases hyi:i<y.length
  ·have gy:=List.getElem?_eq_getElem hyi;obtain⟨v,ev,hv32⟩:=hy.get hyi;have h4:((i:Int)<(y.length:Int)):=by omega
   have hw2:u64.wrap (((c+u:Nat):Int)+u64.wrap (v:Int))=((c+u+v:Nat):Int):=by rw[aT (v:Int),dZ (by omega),<-Int.natCast_add,aT,dZ (by omega)]
   have hk:=key (c+u+v) (by omega) (by
    rw[kU hxi,kU hyi,eu,ev];simp only[Int.toNat_natCast];congr 1
    rw[Nat.mul_add];omega)
   generalize (c+u+v:Nat)=T at hw2 hk;generalize (c+u:Nat)=T0 at hw1 hw2;simp only[aO,h3,h4,decide_true,if_true,ca,aP,bH,bQ,eJ,gx,gy,eu,ev,Option.map_some,Option.bind_some,kJ,kB,beq_self_eq_true,cN,hw1,hw2,Int.toNat_natCast,List.getElem?_cons_zero,aA];exact hk
  ·have h4:¬((i:Int)<(y.length:Int)):=by omega
   have hk:=key (c+u) (by omega) (by
    rw[kU hxi,eu,List.drop_eq_nil_of_le (show y.length<=i by omega),List.drop_eq_nil_of_le (show y.length<=i+1 by omega)];simp only[Int.toNat_natCast,aV,Nat.add_zero]
    congr 1;omega)
   generalize (c+u:Nat)=T at hw1 hk;simp only[aO,h3,h4,decide_true,decide_false,Bool.false_eq_true,if_true,if_false,ca,aP,bH,bQ,eJ,gx,eu,Option.map_some,Option.bind_some,kJ,kB,beq_self_eq_true,cN,hw1,Int.toNat_natCast,List.getElem?_cons_zero,aA];exact hk
theorem Jc(b c:Bool)(x y:Nat)(hx:Fits x)(hyx:(aQ y).length<=(aQ x).length):
  rk prog aF (.at_ 199 0 (fw 7) (sv 56 [(0,vl b (ws x)),(1,vl c (ws y))]) [] [])=some (.d (.l (nb (x+y)) (ws (x+y))),[]):=by
 rw[QM];have lx:=hx.len;have h:=MZ c b (aQ y) (aQ x) (cU x) (cU y) (by omega) hyx (aQ x).length 0 false [] 0 (by omega) dR.nil rfl (by decide);simp only[aV,Nat.pow_zero,Nat.one_mul,Nat.zero_add,List.drop_zero,cQ,ER,Int.natCast_zero]at h;have hw:i64.wrap (((aQ x).length:Int)+1)=((aQ x).length:Int)+1:=U5;have h1:(0:Int)<=((aQ x).length:Int)+1:=by omega
 have h2:((aQ x).length:Int)+1<=4294967296:=by omega
 simp only[dP,hw,aP,decide_eq_true h1,decide_eq_true h2,if_true,aA];exact h
theorem GN(b c:Bool)(x y:Nat)(hx:Fits x)(hy:Fits y):rk prog aF (.call 199 [vl b (ws x),vl c (ws y)] [])=some (.d (.l (nb (x+y)) (ws (x+y))),[]):=by
 rw[f50];by_cases h:(aQ x).length<(aQ y).length
 ·have hi:((aQ x).length:Int)<((aQ y).length:Int):=by omega
  have:=Jc c b y x hy (by omega);rw[Nat.add_comm]at this;simp only[dP,aO,decide_eq_true hi,if_true,aA,this]
 ·have hi:¬((aQ x).length:Int)<((aQ y).length:Int):=by omega
  have:=Jc b c x y hx (by omega);simp only[dP,aO,decide_eq_false hi,Bool.false_eq_true,if_false,aA,this]
theorem qS(b:Bool)(x:Nat)(hx:Fits x):rk prog aF (.call 162 [vl b (ws x)] [])=some (.d (.l (nb x) (ws x)),[]):=by have:=sj b (aQ x) (cU x) (by have:=hx.len;omega);rw[cQ]at this;exact this
theorem k6{a b:Nat}(ha:a<18446744073709551616)(hb:b<18446744073709551616):((BitVec.ofInt 64 (a:Int) ||| BitVec.ofInt 64 (b:Int)).toNat)=a ||| b:=by rw[BitVec.toNat_or,BitVec.ofInt_natCast,BitVec.ofInt_natCast,BitVec.toNat_ofNat,BitVec.toNat_ofNat,Nat.mod_eq_of_lt (by simpa using ha),Nat.mod_eq_of_lt (by simpa using hb)]
theorem ps{c a k:Nat}(h:c<2^k):c ||| (a*2^k)=c+a*2^k:=by rw[Nat.or_comm,Nat.mul_comm a,<-Nat.two_pow_add_eq_or_of_lt h,Nat.add_comm]
theorem kr(n m:Nat):(n:Int).tmod (m:Int)=((n%m:Nat):Int):=(Int.ofNat_tmod n m).symm
theorem fG(n m:Nat):(n:Int).tdiv (m:Int)=((n / m:Nat):Int):=(Int.ofNat_tdiv n m).symm
theorem Ph(n:Nat)(b:Bool)(x:List Int)(hx:dR x)(hb:x.length<=100000)(q:Nat)(hq:q<=500000):∀(d i:Nat) (b1:Bool) (out:List Int) (c:Nat),i+d=x.length->dR out->out.length=q+i->c<2^(n%32)->
  rk prog aF (.at_ 161 0 (fw 351)
   (Pl (n:Int) b1 (ints .u32 out) (c:Int) b (ints .u32 x) (x.length:Int) (i:Int)) [(5,1)] [])=
  some (.d (nl (aV out+W^(q+i)*(c+aV (x.drop i)*2^(n%32)))),[]):=by
 have hk:n%32<32:=Nat.mod_lt _ (by decide);have h2k:2^(n%32)<=2147483648:=Nat.le_trans (Nat.pow_le_pow_right (by decide) (show n%32<=31 by omega)) (by decide);have h2p:0<2^(n%32):=Nat.pow_pos (by decide);intro d
 induction d with
 |zero=>
  intro i b1 out c hi hu hl hc;rw[AE];have h3:¬((i:Int)<(x.length:Int)):=by omega
  have hd:x.drop i=[]:=List.drop_eq_nil_of_le (by omega);have hc':c<4294967296:=by omega
  have hw:u32.wrap (c:Int)=(c:Int):=by rw[dj,nP hc']
  have hcut:=sj false (out++[(c:Int)]) (hu.snoc hc') (by simp;omega);have hv:aV (out++[(c:Int)])=aV out+W^(q+i)*(c+aV (x.drop i)*2^(n%32)):=by rw[ef,hl,hd];simp[aV]
  rw[hv]at hcut;have hlen:q+i+1<=4294967296:=by omega
  simp only[aO,h3,decide_false,Bool.false_eq_true,if_false,aP,eR,if_true,Bool.or_true,cN,hl,decide_eq_true hlen,hw,ja,Bool.and_false,aY,hcut,Option.bind_some,List.isEmpty_nil];simp[nl]
 |succ d ih=>
  intro i b1 out c hi hu hl hc;rw[AE];have hxi:i<x.length:=by omega
  have gx:=List.getElem?_eq_getElem hxi;obtain⟨a,ea,ha32⟩:=hx.get hxi;have h3:((i:Int)<(x.length:Int)):=by omega
  have hle:q+i+1<=4294967296:=by omega
  have hak:a*2^(n%32)<=4294967295*2147483648:=Nat.mul_le_mul (by omega) h2k;have hm:(n:Int).tmod 32=((n%32:Nat):Int):=kr n 32;have hmin:min (n%32) 64=n%32:=Nat.min_eq_left (by omega);have hw0:u64.wrap (u64.wrap (a:Int)*2^(n%32))=((a*2^(n%32):Nat):Int):=by
   rw[aT (a:Int),dZ (by omega)];have:(a:Int)*2^(n%32)=((a*2^(n%32):Nat):Int):=by simp
   rw[this,aT,dZ (by omega)]
  have hor:((BitVec.ofInt u64.bits (c:Int) ||| BitVec.ofInt u64.bits ((a*2^(n%32):Nat):Int)).toNat)=c+a*2^(n%32):=by have:=k6 (a:=c) (b:=a*2^(n%32)) (by omega) (by omega);rw[ps hc]at this;exact this
  have hw1:u64.wrap ((c+a*2^(n%32):Nat):Int)=((c+a*2^(n%32):Nat):Int):=by rw[aT,dZ (by omega)]
  have hw2:u32.wrap ((c+a*2^(n%32):Nat):Int)=(((c+a*2^(n%32))%W:Nat):Int):=by rw[dj,sK]
  have hw3:((c+a*2^(n%32):Nat):Int).fdiv 4294967296=(((c+a*2^(n%32)) / W:Nat):Int):=nL _;have hw:=Wv i;have hmod:(c+a*2^(n%32))%W<4294967296:=Nat.mod_lt _ iw;have hdiv:(c+a*2^(n%32)) / W<2^(n%32):=by apply Nat.div_lt_of_lt_mul;have:a*2^(n%32)<=4294967295*2^(n%32):=Nat.mul_le_mul_right _ (by omega);unfold W;omega
  have ih':=ih (i+1) false (out++[(((c+a*2^(n%32))%W:Nat):Int)]) ((c+a*2^(n%32)) / W) (by omega) (hu.snoc hmod) (by simp[hl];omega) hdiv;have hval:aV (out++[(((c+a*2^(n%32))%W:Nat):Int)])+W^(q+(i+1))*((c+a*2^(n%32)) / W+aV (x.drop (i+1))*2^(n%32))=aV out+W^(q+i)*(c+aV (x.drop i)*2^(n%32)):=by rw[ef,hl,kU hxi,ea];simp only[aV,Int.toNat_natCast,Nat.mul_zero,Nat.add_zero];rw[show q+(i+1)=(q+i)+1 from rfl,Nat.pow_succ,Nat.add_assoc,Nat.mul_assoc,<-Nat.mul_add];congr 2;have:=Nat.mod_add_div (c+a*2^(n%32)) W;rw[Nat.mul_add,<-Nat.add_assoc,this,Nat.add_mul,Nat.mul_assoc,Nat.add_assoc]
  rw[hval,<-ja]at ih';have hp:(0:Int)<=((n%32:Nat):Int):=by omega
  generalize (c+a*2^(n%32):Nat)=T at hor hw1 hw2 hw3 ih';simp only[aO,h3,decide_true,if_true,ca,aP,bH,bQ,eJ,gx,ea,Option.map_some,Option.bind_some,kJ,kB,beq_self_eq_true,eR,Bool.or_true,cN,hl,decide_eq_true hle,Bool.and_false,hm,decide_eq_true hp,Int.toNat_natCast,hmin,hw0,hor,hw1,hw2,hw3,hw,List.getElem?_cons_zero,aA];exact ih'
theorem Dz(q k:Nat):W^q*2^k=2^(32*q+k):=by
 have:W=2^32:=by decide
 rw[this,<-Nat.pow_mul,<-Nat.pow_add]
theorem xW(n:Nat):List.replicate n (D.i .u32 0)=ints .u32 (List.replicate n 0):=by simp[ints]
theorem uE(b:Bool)(x n:Nat)(hx:Fits x)(hn:n<=1000000):rk prog aF (.call 161 [vl b (ws x),vi (n:Int)] [])=some (.d (.l (nb (x*2^n)) (ws (x*2^n))),[]):=by
 rw[f53];have lx:=hx.len;have hcut:=qS b x hx;have h1:¬((n:Int)<i64.wrap (-32*i64.wrap (((aQ x).length:Int)+1))):=by rw[wrap_i64 (n:=((aQ x).length:Int)+1) (by omega) (by omega),Ww];omega
 have h2:¬((n:Int)<0):=by omega
 by_cases h0:x=0
 ·subst h0;have h3:(aQ 0).length=0:=by rw[cc];rfl
  rw[Nat.zero_mul];simp only[aY,hcut,Option.bind_some,List.isEmpty_nil,aP,if_true,bM,eH,dP,aO,decide_eq_false h2,Bool.false_eq_true,if_false,h3,Int.natCast_zero,beq_self_eq_true,aD,ite_self];rw[Q9,tG]
 ·have h3:(aQ x).length≠0:=λ e=>h0 ((fJ x).1 (List.length_eq_zero_iff.1 e));have h4:(((aQ x).length:Int)==0)=false:=beq_eq_false_iff_ne.2 (by omega);have hd:(n:Int).tdiv 32=((n / 32:Nat):Int):=fG n 32;have hq:n / 32<=500000:=by clear h1;omega
  have hw1:i64.wrap ((n / 32:Nat):Int)=((n / 32:Nat):Int):=U5;have hw2:i64.wrap (((n / 32:Nat):Int)+((aQ x).length:Int))=((n / 32:Nat):Int)+((aQ x).length:Int):=U5;have hw3:i64.wrap (((n / 32:Nat):Int)+((aQ x).length:Int)+1)=((n / 32:Nat):Int)+((aQ x).length:Int)+1:=U5;have c1:(0:Int)<=((n / 32:Nat):Int):=by omega
  have c2:((n / 32:Nat):Int)<=((n / 32:Nat):Int)+((aQ x).length:Int)+1:=by omega
  have c3:((n / 32:Nat):Int)+((aQ x).length:Int)+1<=4294967296:=by omega
  have h:=Ph n (nb x) (aQ x) (cU x) (by omega) (n / 32) hq (aQ x).length 0 false (List.replicate (n / 32) 0) 0 (by omega) (λ z hz=>by rw[List.mem_replicate]at hz;omega) (by simp) (Nat.pow_pos (by decide));rw[gL,Nat.zero_add,Nat.zero_add,Nat.add_zero,List.drop_zero,cQ,Nat.mul_left_comm,Dz,Nat.div_add_mod,<-xW,mJ,Int.natCast_zero]at h;simp only[aY,hcut,Option.bind_some,List.isEmpty_nil,aP,if_true,bM,eH,dP,aO,decide_eq_false h1,decide_eq_false h2,Bool.false_eq_true,if_false,h4,hd,hw1,hw2,hw3,decide_eq_true c1,decide_eq_true c2,decide_eq_true c3,Int.toNat_natCast];rw[show ws x=ints .u32 (aQ x)from rfl];rw[h];rfl
theorem fp{k:Nat}{g:List V->List Ob->Option Out}(h:aF.ext k=some g)(args:List V)(S:List Ob):rk prog aF (.call k args S)=g args S:=by rw[Bu];simp only[pG,h,ca];cases g args S<;>simp
theorem HI(n:Nat)(h:n<4294967296):rk prog aF (.call 163 [V.d (D.i .u32 (n:Int))] [])=some (.d (.i .i64 (bE n:Nat)),[]):=by
 rw[fp (g:=o9) rfl];have h1:(0:Int)<=(n:Int)/\(n:Int)<4294967296:=by omega
 simp only[o9,if_pos h1,Int.toNat_natCast]
theorem nO(n:Nat):n<2^bE n:=by
 unfold bE;split
 ·subst n;decide
 ·exact Nat.lt_log2_self
theorem pS(n:Nat)(h:n≠0):2^(bE n-1)<=n:=by unfold bE;rw[if_neg h,Nat.add_sub_cancel];exact Nat.log2_self_le h
theorem kS{n:Nat}(h:n≠0):0<bE n:=by unfold bE;rw[if_neg h];omega
theorem cW(n k:Nat):bE n<=k↔n<2^k:=by
 constructor
 ·intro h;exact Nat.lt_of_lt_of_le (nO n) (Nat.pow_le_pow_right (by decide) h)
 ·intro h;by_cases h0:n=0
  ·subst h0;simp[bE]
  ·have h1:=pS n h0;have h2:=kS h0;have:2^(bE n-1)<2^k:=Nat.lt_of_le_of_lt h1 h;have:=(Nat.pow_lt_pow_iff_right (show 1<2 by decide)).1 this;omega
theorem B6{n k:Nat}(h1:2^k<=n)(h2:n<2^(k+1)):bE n=k+1:=by
 have a:=(cW n (k+1)).2 h2;have b:¬bE n<=k:=λ h=>by have:=(cW n k).1 h;omega
 omega
theorem ya(n:Nat)(h:n≠0):∃m z:Nat,(aQ n).length=m+1/\(aQ n)[m]?=some (z:Int)/\z≠0/\z<W/\n / W^m=z:=by
  induction n using Nat.strongRecOn with
  |ind n ih=>
    rw[fi h];by_cases h2:n / W=0
    · rw [h2, cc]
      have h3 : n < W := by rcases Nat.div_eq_zero_iff.1 h2 with h | h; · exact absurd h (by decide)
                            · exact h
      refine⟨0,n,rfl,?_,h,h3,by simp⟩;simp[Nat.mod_eq_of_lt h3]
    · obtain ⟨m, z, a, b, c, d, e⟩ := ih (n / W) (Nat.div_lt_self (by omega) (by decide)) h2
      refine⟨m+1,z,by rw[List.length_cons,a],by rw[List.getElem?_cons_succ,b],c,d,?_⟩;rw[Nat.pow_succ,Nat.mul_comm,<-Nat.div_div_eq_div_mul,e]
theorem UP:W=2^32:=by decide
theorem nu(m:Nat):W^m=2^(32*m):=by rw[UP,<-Nat.pow_mul]
theorem pR(b:Bool)(x:Nat)(hx:Fits x):rk prog aF (.call 113 [vl b (ws x)] [])=some (.d (.i .i64 (bE x:Nat)),[]):=by
 rw[f34];have lx:=hx.len;have hcut:=qS b x hx;by_cases h0:x=0
 ·subst h0;simp[hcut,cc,bE]
 ·obtain⟨m,z,a,g,c,d,e⟩:=ya x h0;have h4:((((aQ x).length:Nat):Int)==0)=false:=beq_eq_false_iff_ne.2 (by omega);have hw:i64.wrap (((aQ x).length:Int)-1)=(m:Int):=U5;have hz:=HI z d;have hlen:bE x=32*m+bE z:=by
   have hb:=kS c;have h1:=pS z c;have h2:=nO z;have e1:2^(32*m+(bE z-1))<=x:=by
    rw[Nat.pow_add,<-nu];have:W^m*z<=x:=by rw[<-e];exact Nat.mul_div_le x (W^m)
    exact Nat.le_trans (Nat.mul_le_mul_left _ h1) this
   have e2:x<2^(32*m+(bE z-1)+1):=by
    rw[show 32*m+(bE z-1)+1=32*m+bE z by omega,Nat.pow_add,<-nu];have:x<W^m*(z+1):=by rw[<-e];exact Nat.lt_mul_div_succ x (Nat.pow_pos iw)
    exact Nat.lt_of_lt_of_le this (Nat.mul_le_mul_left _ h2)
   rw[B6 e1 e2];omega
  have hbz:bE z<=32:=(cW z 32).2 d;have hw2:i64.wrap (32*(m:Int))=32*(m:Int):=U5;have hw3:i64.wrap (32*(m:Int)+(bE z:Int))=(bE x:Int):=U5;have hg:(ws x)[m]?=some (D.i .u32 (z:Int)):=by rw[ws,eJ,g];rfl
  simp only[aY,hcut,Option.bind_some,List.isEmpty_nil,aP,if_true,bM,eH,dP,aO,h4,Bool.false_eq_true,if_false,hw,bQ,hg,ca,kJ,beq_self_eq_true,Int.toNat_natCast,kB,List.getElem?_cons_zero,bH,hz,hw2,hw3,aD]
def fV(x y:Nat):Int:=if x<y then -1 else if y<x then 1 else 0
theorem mU(a:List Int)(i:Nat)(h:i<a.length):aV (a.take (i+1))=aV (a.take i)+W^i*a[i].toNat:=by rw[List.take_add_one,List.getElem?_eq_getElem h,ef,List.length_take,Nat.min_eq_left (by omega)];simp[aV]
theorem lex_lt{i p q x y:Nat}(hp:p<W^i)(h:x<y):p+W^i*x<q+W^i*y:=by have h1:W^i*(x+1)<=W^i*y:=Nat.mul_le_mul_left _ h;rw[Nat.mul_add,Nat.mul_one]at h1;omega
theorem DP(b_0 b_2:Bool)(a c:List Int)(ha:dR a)(hc:dR c)(hb:a.length<=100000)(hac:a.length=c.length):∀i:Nat,i<=a.length->
  rk prog aF (.at_ 164 0 (fw 87) (BE b_0 (ints .u32 a) b_2 (ints .u32 c) ((i:Int)-1)) [] [])=
   some (.d (.i .i64 (fV (aV (a.take i)) (aV (c.take i)))),[])
 |0,hi=>by
  rw[Ez];simp[fV]
 |i+1,hi=>by
  rw[Ez];have ih:=DP b_0 b_2 a c ha hc hb hac i (by omega);have hia:i<a.length:=by omega
  have hic:i<c.length:=by omega
  obtain⟨u,eu,hu⟩:=ha.get hia;obtain⟨v,ev,hv⟩:=hc.get hic;have ga:a[i]?=some (u:Int):=by rw[List.getElem?_eq_getElem hia,eu]
  have gc:c[i]?=some (v:Int):=by rw[List.getElem?_eq_getElem hic,ev]
  have pa:=pK (ha.take i);have pc:=pK (hc.take i);rw[List.length_take,Nat.min_eq_left (by omega)]at pa pc;have e0:(((i+1:Nat):Int)-1)=(i:Int):=by omega
  have h0:(i:Int) ≥ 0:=by omega
  have hw:i64.wrap ((i:Int)-1)=(i:Int)-1:=U5;rw[e0,mU a i hia,mU c i hic,eu,ev];simp only[Int.toNat_natCast];generalize aV (a.take i)=p at *;generalize aV (c.take i)=q at *;rcases Nat.lt_trichotomy u v with h|h|h
  ·have h1:(u:Int)<(v:Int):=by omega
   have h2:fV (p+W^i*u) (q+W^i*v) = -1:=by unfold fV;rw[if_pos (lex_lt pa h)]
   simp[h0,ga,gc,h1,h2]
  ·subst h;have h2:fV (p+W^i*u) (q+W^i*u)=fV p q:=by
    unfold fV;congr 1
    ·exact propext (by omega)
    ·congr 1;exact propext (by omega)
   rw[h2];simp[h0,ga,gc,hw,ih]
  ·have h1:¬(u:Int)<(v:Int):=by omega
   have h1':(v:Int)<(u:Int):=by omega
   have h2:fV (p+W^i*u) (q+W^i*v)=1:=by have:=lex_lt (q:=p) pc h;unfold fV;rw[UM,if_pos this]
   simp[h0,ga,gc,h1,h1',h2]
theorem gm(n:Nat):n<W^(aQ n).length:=by
 have:=pK (cU n)
 rwa[cQ]at this
theorem CD(n:Nat)(h:n≠0):W^((aQ n).length-1)<=n:=by
 obtain⟨m,z,a,g,c,d,e⟩:=ya n h;rw[a,Nat.add_sub_cancel];have:W^m*z<=n:=by rw[<-e];exact Nat.mul_div_le n (W^m)
 exact Nat.le_trans (Nat.le_mul_of_pos_right _ (by omega)) this
theorem tg{x y:Nat}(h:(aQ x).length<(aQ y).length):x<y:=by
 have h1:=gm x;have hy:y≠0:=λ e=>by rw[e,cc]at h;simp at h
 have h2:=CD y hy;have:W^(aQ x).length<=W^((aQ y).length-1):=Nat.pow_le_pow_right iw (by omega);omega
theorem GV(b c:Bool)(x y:Nat)(hx:Fits x)(hy:Fits y):rk prog aF (.call 164 [vl b (ws x),vl c (ws y)] [])=some (.d (.i .i64 (fV x y)),[]):=by
 rw[f62];have lx:=hx.len;have ly:=hy.len;have c1:=qS b x hx;have c2:=qS c y hy;simp only[aY,c1,c2,Option.bind_some,List.isEmpty_nil,aP,if_true,bM,eH,dP,aO,decide_eq_true_eq];by_cases h1:(aQ x).length<(aQ y).length
 ·have:=tg h1;rw[if_pos (by omega),fV,if_pos this];rfl
 ·by_cases h2:(aQ y).length<(aQ x).length
  ·have:=tg h2;rw[UM,if_pos (by omega),fV,UM,if_pos this];rfl
  ·have h3:(aQ x).length=(aQ y).length:=by omega
   have:=DP (nb x) (nb y) (aQ x) (aQ y) (cU x) (cU y) (by omega) h3 (aQ x).length (Nat.le_refl _);rw[List.take_length,h3,List.take_length,cQ,cQ]at this;have hw:i64.wrap (((aQ y).length:Int)-1)=((aQ y).length:Int)-1:=U5;rw[UM,UM,h3,hw,ws,ws,this];rfl
theorem HK(b:Bool)(x:Nat)(hx:Fits x):rk prog aF (.call 168 [vl b (ws x)] [])=some (.d (.i .u64 ((x%18446744073709551616:Nat):Int)),[]):=by
  have step:∀n_2:Int,∀n_3:Int,∀i:Nat,(i:Int)<n_3->i<=1->∀u:Nat,(aQ x)[i]?=some (u:Int)->
     rk prog aF (.at_ 168 0 (fw 43) (IJ b (ws x) n_2 n_3 (i:Int)) [] [])=
     rk prog aF (.at_ 168 0 (fw 43) (IJ b (ws x) (u64.wrap (((BitVec.ofInt u64.bits n_2 ||| BitVec.ofInt u64.bits (u64.wrap (u64.wrap (u:Int)*2^(32*i)))).toNat:Nat):Int)) n_3 ((i+1:Nat):Int)) [] []):=by
    intro n_2 n_3 i hi hi1 u hu;rw[Ex];have hg:(ws x)[i]?=some (D.i .u32 (u:Int)):=by rw[ws,eJ,hu];rfl
    have hw:i64.wrap (32*(i:Int))=((32*i:Nat):Int):=U5;have hw1:=Wv i;have hp:(0:Int)<=((32*i:Nat):Int):=by omega
    have hm:min (32*i) 64=32*i:=by omega
    simp only[aO,decide_eq_true hi,if_true,ca,bQ,hg,Option.bind_some,kJ,beq_self_eq_true,aP,Int.toNat_natCast,kB,List.getElem?_cons_zero,bH,hw,hw1,decide_eq_true hp,hm,aA]
  have fin:∀n_2:Int,∀n:Int,rk prog aF (.at_ 168 0 (fw 43) (IJ b (ws x) n_2 n n) [] [])=some (.d (.i .u64 n_2),[]):=by
    intro n_2 n;rw[Ex];have:¬n<n:=by omega
    simp[this]
  rw[f56,dP,aA];by_cases h0:x=0
  · subst h0
    rw[cc];exact fin 0 0
  · have e0 := fi h0
    have hm:=Nat.mod_lt x iw;have hmd:=Nat.mod_add_div x W;have s1:=step 0;by_cases h1:x / W=0
    · rw [h1, cc] at e0
      have hx1:x<W:=by rw[h1,Nat.mul_zero]at hmd;omega
      have:=s1 1 0 (by decide) (by decide) (x%W) (by rw[e0];rfl);rw[e0];refine Eq.trans this ?_;rw[Nat.mod_eq_of_lt hx1];have hW:x<4294967296:=hx1;have hv:u64.wrap (((BitVec.ofInt u64.bits 0 ||| BitVec.ofInt u64.bits (u64.wrap (u64.wrap (x:Int)*2^(32*0)))).toNat:Nat):Int)=((x%18446744073709551616:Nat):Int):=by
        rw[Nat.mul_zero,Int.pow_zero,Int.mul_one,aT (x:Int),dZ (by omega),aT (x:Int),dZ (by omega)];have:=k6 (a:=0) (b:=x) (by decide) (by omega);have h2:(BitVec.ofInt u64.bits 0 ||| BitVec.ofInt u64.bits (x:Int)).toNat=0 ||| x:=this
        rw[h2,Nat.zero_or,aT];omega
      rw[hv];exact fin _ 1
    · have e1 := fi h1
      rw[e1]at e0;have hm2:=Nat.mod_lt (x / W) iw;have hl:2<=(aQ x).length:=by rw[e0];simp
      have hmin:(if (2:Int)<((aQ x).length:Int) then(2:Int) else((aQ x).length:Int))=2:=by split<;>omega
      rw[hmin];have a1:=s1 2 0 (by decide) (by decide) (x%W) (by rw[e0];rfl);refine Eq.trans a1 ?_;have a2:=step (u64.wrap (((BitVec.ofInt u64.bits 0 ||| BitVec.ofInt u64.bits (u64.wrap (u64.wrap ((x%W:Nat):Int)*2^(32*0)))).toNat:Nat):Int)) 2 1 (by decide) (by decide) (x / W%W) (by rw[e0];rfl);refine Eq.trans a2 ?_;have k1:x%W<4294967296:=hm;have k2:x / W%W<4294967296:=hm2;have hv:u64.wrap (((BitVec.ofInt u64.bits 0 ||| BitVec.ofInt u64.bits (u64.wrap (u64.wrap ((x%W:Nat):Int)*2^(32*0)))).toNat:Nat):Int)=((x%W:Nat):Int):=by
        rw[Nat.mul_zero,Int.pow_zero,Int.mul_one,aT ((x%W:Nat):Int),dZ (by omega),aT ((x%W:Nat):Int),dZ (by omega)];have:=k6 (a:=0) (b:=x%W) (by decide) (by omega);have h2:(BitVec.ofInt u64.bits 0 ||| BitVec.ofInt u64.bits ((x%W:Nat):Int)).toNat=0 ||| x%W:=this
        rw[h2,Nat.zero_or,aT,dZ (by omega)]
      rw[hv];have hv2:u64.wrap (((BitVec.ofInt u64.bits ((x%W:Nat):Int) ||| BitVec.ofInt u64.bits (u64.wrap (u64.wrap ((x / W%W:Nat):Int)*2^(32*1)))).toNat:Nat):Int)=((x%18446744073709551616:Nat):Int):=by
        have hmul:x / W%W*2^32<18446744073709551616:=by have:x / W%W*2^32<=4294967295*2^32:=Nat.mul_le_mul_right _ (by omega);omega
        have hc:((x / W%W:Nat):Int)*2^(32*1)=((x / W%W*2^32:Nat):Int):=by simp
        rw[aT ((x / W%W:Nat):Int),dZ (by omega),hc,aT (((x / W%W*2^32:Nat):Int)),dZ hmul];have:=k6 (a:=x%W) (b:=x / W%W*2^32) (by omega) hmul;rw[ps (k:=32) (by exact k1)]at this;have h2:(BitVec.ofInt u64.bits ((x%W:Nat):Int) ||| BitVec.ofInt u64.bits ((x / W%W*2^32:Nat):Int)).toNat=x%W+x / W%W*2^32:=this;rw[h2,aT];unfold W at *;omega
      rw[hv2];exact fin _ 2
theorem Ag(a:List Int)(ha:dR a)(hb:a.length<=1000000):∀n:Nat,n<=a.length->aV (a.take n)=aV a->
  rk prog kG (.at_ 162 1 (fw 19) (qt (V.m 0 0 a.length) (n:Int)) [] [Ob.cells (cellsOf a) []])=some (.d (nl (aV a)),[Ob.cells (cellsOf a) []])
 |0,hn,hv=>by
  rw[DA];have h0:aV a=0:=by rw[<-hv];rfl
  have e:nl (aV a) = .l true []:=by rw[h0];exact oq cc
  have hv0:=jY a 0 (by omega);simp[tM,e,hv0,ints]
 |n+1,hn,hv=>by
  rw[DA];have hx:n<a.length:=by omega
  have gx:=List.getElem?_eq_getElem hx;have hp:(0:Int)<(n:Int)+1:=by omega
  have hw:i64.wrap (n:Int)=(n:Int):=U5;have hl:n+1<=4294967296:=by omega
  have hni:(n:Int)<(a.length:Int):=by omega
  by_cases h0:a[n]=0
  ·have ih:=Ag a ha hb n (by omega) (by rw[<-hv];exact(fM a n (by rw[gx,h0])).symm)
   simp[hp,hw,hni,dq,gx,h0,tM,ih]
  ·have e:nl (aV a) = .l (a.take (n+1)).isEmpty (ints .u32 (a.take (n+1))):=by rw[<-hv];exact oq (iQ ha hx h0)
   have hle:(n:Int)+1<=(a.length:Int):=by omega
   have hp2:(0:Int)<=(n:Int)+1:=by omega
   have ht:((n:Int)+1).toNat=n+1:=by omega
   have hl2:n+1<=a.length:=by omega
   have hv1:=jY a (n+1) hl2;simp[hp,hw,hni,dq,gx,h0,tM,hle,hp2,ht,hv1,hl,e,iq,hl2]
theorem DS(a:List Int)(ha:dR a)(hb:a.length<=1000000):rk prog kG (.call 162 [V.m 0 0 a.length] [Ob.cells (cellsOf a) []])=some (.d (nl (aV a)),[Ob.cells (cellsOf a) []]):=by rw[a51];simp[Ag a ha hb a.length (Nat.le_refl _) (by rw[List.take_length])]
theorem vV(a:List Int)(o:Ob)(n:Nat)(h:n<=a.length):dn [Ob.cells (cellsOf a) [],o] 1 (V.m 1 0 n)=some (ints .u32 (a.take n)):=by simp only[dn,view,bT,List.length_cons,List.length_nil,Nat.zero_add,if_true];rw[if_pos (by rw[eP];omega)];simp only[List.drop_zero,cellsOf,<-List.map_take,mT,tA]
theorem Ai(a:List Int)(cs:List V)(ha:dR a)(hb:a.length<=1000000):∀n:Nat,n<=a.length->aV (a.take n)=aV a->
  rk prog kG (.at_ 162 2 (fw 19) (qt (V.m 1 0 a.length) (n:Int)) [] [Ob.cells (cellsOf a) [],Ob.cells cs []])=some (.d (nl (aV a)),[Ob.cells (cellsOf a) [],Ob.cells cs []])
 |0,hn,hv=>by
  rw[wV];have h0:aV a=0:=by rw[<-hv];rfl
  have e:nl (aV a) = .l true []:=by rw[h0];exact oq cc
  have hv0:=vV a (Ob.cells cs []) 0 (by omega);simp[oI,e,hv0,ints]
 |n+1,hn,hv=>by
  rw[wV];have hx:n<a.length:=by omega
  have gx:=List.getElem?_eq_getElem hx;have hp:(0:Int)<(n:Int)+1:=by omega
  have hw:i64.wrap (n:Int)=(n:Int):=U5;have hl:n+1<=4294967296:=by omega
  have hni:(n:Int)<(a.length:Int):=by omega
  by_cases h0:a[n]=0
  ·have ih:=Ai a cs ha hb n (by omega) (by rw[<-hv];exact(fM a n (by rw[gx,h0])).symm)
   simp[hp,hw,hni,dq,gx,h0,oI,ih]
  ·have e:nl (aV a) = .l (a.take (n+1)).isEmpty (ints .u32 (a.take (n+1))):=by rw[<-hv];exact oq (iQ ha hx h0)
   have hle:(n:Int)+1<=(a.length:Int):=by omega
   have hp2:(0:Int)<=(n:Int)+1:=by omega
   have ht:((n:Int)+1).toNat=n+1:=by omega
   have hl2:n+1<=a.length:=by omega
   have hv1:=vV a (Ob.cells cs []) (n+1) hl2;simp[hp,hw,hni,dq,gx,h0,oI,hle,hp2,ht,hv1,hl,e,iq,hl2]
theorem Nn(a:List Int)(cs:List V)(ha:dR a)(hb:a.length<=1000000):rk prog kG (.call 162 [V.m 1 0 a.length] [Ob.cells (cellsOf a) [],Ob.cells cs []])=some (.d (nl (aV a)),[Ob.cells (cellsOf a) [],Ob.cells cs []]):=by rw[We];simp[Ai a cs ha hb a.length (Nat.le_refl _) (by rw[List.take_length])]
theorem Ac(b_0 b_2:Bool)(cs ds:List V)(a c:List Int)(ha:dR a)(hc:dR c)(hb:a.length<=100000)(hac:a.length=c.length):∀i:Nat,i<=a.length->
  rk prog kG (.at_ 164 2 (fw 87) (BE b_0 (ints .u32 a) b_2 (ints .u32 c) ((i:Int)-1)) [] [Ob.cells ds [],Ob.cells cs []])=
   some (.d (.i .i64 (fV (aV (a.take i)) (aV (c.take i)))),[Ob.cells ds [],Ob.cells cs []])
 |0,hi=>by
  rw[DB];simp[fV]
 |i+1,hi=>by
  rw[DB];have ih:=Ac b_0 b_2 cs ds a c ha hc hb hac i (by omega);have hia:i<a.length:=by omega
  have hic:i<c.length:=by omega
  obtain⟨u,eu,hu⟩:=ha.get hia;obtain⟨v,ev,hv⟩:=hc.get hic;have ga:a[i]?=some (u:Int):=by rw[List.getElem?_eq_getElem hia,eu]
  have gc:c[i]?=some (v:Int):=by rw[List.getElem?_eq_getElem hic,ev]
  have pa:=pK (ha.take i);have pc:=pK (hc.take i);rw[List.length_take,Nat.min_eq_left (by omega)]at pa pc;have e0:(((i+1:Nat):Int)-1)=(i:Int):=by omega
  have h0:(i:Int) ≥ 0:=by omega
  have hw:i64.wrap ((i:Int)-1)=(i:Int)-1:=U5;rw[e0,mU a i hia,mU c i hic,eu,ev];simp only[Int.toNat_natCast];generalize aV (a.take i)=p at *;generalize aV (c.take i)=q at *;rcases Nat.lt_trichotomy u v with h|h|h
  ·have h1:(u:Int)<(v:Int):=by omega
   have h2:fV (p+W^i*u) (q+W^i*v) = -1:=by unfold fV;rw[if_pos (lex_lt pa h)]
   simp[h0,ga,gc,h1,h2]
  ·subst h;have h2:fV (p+W^i*u) (q+W^i*u)=fV p q:=by
    unfold fV;congr 1
    ·exact propext (by omega)
    ·congr 1;exact propext (by omega)
   rw[h2];simp[h0,ga,gc,hw,ih]
  ·have h1:¬(u:Int)<(v:Int):=by omega
   have h1':(v:Int)<(u:Int):=by omega
   have h2:fV (p+W^i*u) (q+W^i*v)=1:=by have:=lex_lt (q:=p) pc h;unfold fV;rw[UM,if_pos this]
   simp[h0,ga,gc,h1,h1',h2]
theorem wQ{a:List Int}(ha:dR a):(aQ (aV a)).length<=a.length:=AZ (pK ha)
theorem Ni(a c:List Int)(ha:dR a)(hc:dR c)(la:a.length<=100000)(lc:c.length<=100000):rk prog kG (.call 164 [V.m 0 0 a.length,V.m 1 0 c.length] [Ob.cells (cellsOf c) [],Ob.cells (cellsOf a) []])=some (.d (.i .i64 (fV (aV a) (aV c))),[Ob.cells (cellsOf c) [],Ob.cells (cellsOf a) []]):=by
 rw[XT];have c1:=DS a ha (by omega);have c2:=Nn c (cellsOf a) hc (by omega);rw[mJ]at c1 c2;have lx:=wQ ha;have ly:=wQ hc;simp only[aY,c1,c2,Option.bind_some,jJ,iv,kI,beq_self_eq_true,aP,if_true,bM,eH,dP,aO,decide_eq_true_eq];generalize aV a=x at *;generalize aV c=y at *;by_cases h1:(aQ x).length<(aQ y).length
 ·have:=tg h1;rw[if_pos (by omega),fV,if_pos this];rfl
 ·by_cases h2:(aQ y).length<(aQ x).length
  ·have:=tg h2;rw[UM,if_pos (by omega),fV,UM,if_pos this];rfl
  ·have h3:(aQ x).length=(aQ y).length:=by omega
   have:=Ac (nb x) (nb y) (cellsOf a) (cellsOf c) (aQ x) (aQ y) (cU x) (cU y) (by omega) h3 (aQ x).length (Nat.le_refl _);rw[List.take_length,h3,List.take_length,cQ,cQ]at this;have hw:i64.wrap (((aQ y).length:Int)-1)=((aQ y).length:Int)-1:=U5;rw[UM,UM,h3,hw,ws,ws,this];rfl
theorem tR(b_0:Bool)(l_1:List D)(n_2:Int)(b_3:Bool):
  rk prog zM (.at_ 162 0 (fw 195) (uv b_0 l_1 n_2 b_3) [] [])=aC (rk prog zM) (
aM b_3 (Tr.call (.at_ 162 0 (fw 19) (rn b_0 l_1 (i64.wrap (n_2-1))) [] []) Tr.ret)
  (aH (decide (0<=n_2/\n_2<=(↑l_1.length:Int)))
    (aH (bw 1 l_1)
      (aH (bw 1 (List.take (n_2.toNat-0) (List.drop 0 l_1)))
        (aH (((List.take (n_2.toNat-0) (List.drop 0 l_1)).map V.d).all V.one)
         (aH (decide ((List.take (n_2.toNat-0) (List.drop 0 l_1)).length<=4294967296))
          (ob (zK 0 (V.m 0 0 (List.take (n_2.toNat-0) (List.drop 0 l_1)).length) [Ob.cells (List.map V.d (List.take (n_2.toNat-0) (List.drop 0 l_1))) []]) Tr.ret))))))):=
  aE (by kernel_rfl)
theorem yy(a:List Int):bG 0 (cellsOf a)=true:=by refine da.2 λ c hc=>?_;simp only[cellsOf,ints,List.map_map,List.mem_map]at hc;obtain⟨z,_,rfl⟩:=hc;rfl
theorem LZ(a:List Int):(cellsOf a).all V.one=true:=by rw[List.all_eq_true];intro c hc;simp only[cellsOf,ints,List.map_map,List.mem_map]at hc;obtain⟨z,_,rfl⟩:=hc;rfl
theorem Bd(a:List Int)(n:Nat):zK 0 (V.m 0 0 n) [Ob.cells (cellsOf a) []]=some (.m 0 0 n,[.cells (cellsOf a) []]):=by simp[zK,bT,yy,mA]
theorem Ah(b:Bool)(a:List Int)(ha:dR a)(hb:a.length<=1000000):∀n:Nat,n<=a.length->aV (a.take n)=aV a->
  rk prog zM (.at_ 162 0 (fw 19) (rn b (ints .u32 a) (n:Int)) [] [])=some (.m 0 0 (aQ (aV a)).length,[.cells (cellsOf (aQ (aV a))) []])
 |0,hn,hv=>by
  rw[DL];have h0:aV a=0:=by rw[<-hv];rfl
  have ho:zK 0 (V.m 0 0 0) [Ob.cells [] []]=some (.m 0 0 0,[.cells [] []]):=Bd [] 0;have hc0:cellsOf []=[]:=rfl;simp[tR,h0,cc,hc0,ho]
 |n+1,hn,hv=>by
  rw[DL];have hx:n<a.length:=by omega
  have gx:=List.getElem?_eq_getElem hx;have hp:(0:Int)<(n:Int)+1:=by omega
  have hw:i64.wrap (n:Int)=(n:Int):=U5;by_cases h0:a[n]=0
  ·have ih:=Ah b a ha hb n (by omega) (by rw[<-hv];exact(fM a n (by rw[gx,h0])).symm)
   simp[hp,hw,gx,h0,tR,ih]
  ·have e:aQ (aV a)=a.take (n+1):=by rw[<-hv];exact iQ ha hx h0
   have hle:((0:Int)<=(n:Int)+1/\(n:Int)+1<=((ints .u32 a).length:Nat)):=by rw[cN];omega
   have ht:((n:Int)+1).toNat=n+1:=by omega
   have e1:List.take ((n+1)-0) (List.drop 0 (ints .u32 a))=ints .u32 (a.take (n+1)):=by simp[mT]
   have e2:(ints .u32 (a.take (n+1))).map V.d=cellsOf (a.take (n+1)):=rfl;have hl:(a.take (n+1)).length<=4294967296:=by rw[List.length_take];omega
   have hl2:(ints .u32 (a.take (n+1))).length=(a.take (n+1)).length:=by rw[cN]
   rw[e];have hb0:((a[n]:Int)==0)=false:=beq_eq_false_iff_ne.2 h0;have hpd:((n+1:Nat):Int)>0:=by omega
   have hn1:((n+1:Nat):Int)=(n:Int)+1:=by omega
   have hwi:i64.wrap (((n+1:Nat):Int)-1)=(n:Int):=U5;simp only[aO,decide_eq_true hpd,if_true,hwi,ca,bQ,eJ,gx,Option.map_some,Option.bind_some,kJ,beq_self_eq_true,aP,Int.toNat_natCast,kB,List.getElem?_cons_zero,bH,hb0,aA];rw[tR,hn1,ht,e1,e2];simp only[aO,Bool.false_eq_true,if_false,aP,decide_eq_true hle,eR,if_true,LZ,decide_eq_true hl,ca,hl2,Bd,Option.bind_some,aD]
theorem Nl(b:Bool)(a:List Int)(ha:dR a)(hb:a.length<=1000000):rk prog zM (.call 162 [vl b (ints .u32 a)] [])=some (.m 0 0 (aQ (aV a)).length,[.cells (cellsOf (aQ (aV a))) []]):=by rw[c51];simp[Ah b a ha hb a.length (Nat.le_refl _) (by rw[List.take_length])]
theorem KR(x y:Nat):decide (fV x y<0)=decide (x<y):=by
 unfold fV;by_cases h:x<y
 ·simp[h]
 ·by_cases h2:y<x<;>simp[h,h2]
theorem tW{k:Nat}{g:List V->List Ob->Option Out}(h:lF.ext k=some g)(args:List V)(S:List Ob):rk prog lF (.call k args S)=g args S:=by rw[Bu];simp only[pG,h,ca];cases g args S<;>simp
theorem Dk(a:List Int):lv .u32 (ints .u32 a)=some a:=by
 induction a with
 |nil=>rfl
 |cons z a ih=>rw[AT,lv,if_pos rfl,ih];rfl
theorem qH(a:List Int):iJ (cellsOf a)=some a:=by
 induction a with
 |nil=>rfl
 |cons z a ih=>
  show iJ (V.d (.i .u32 z)::cellsOf a)=_;rw[iJ,ih];rfl
theorem Rk{a:List Int}(h:dR a)(hl:a.length<=100000):Su a=true:=by
 have:(a.all λ z=>decide (0<=z)&&decide (z<4294967296))=true:=by rw[List.all_eq_true];intro z hz;have:=h z hz;simp[this.1,this.2]
 simp only[Su,this,Bool.true_and];exact decide_eq_true hl
theorem No(b:Bool)(a:List Int)(ha:dR a)(hl:a.length<=100000):rk prog lF (.call 162 [vl b (ints .u32 a)] [])=some (.m 0 0 (aQ (aV a)).length,[.cells (cellsOf (aQ (aV a))) []]):=by rw[tW (g:=nA) rfl];simp only[nA,Dk];rw[if_pos (Rk ha hl)];simp[GU,cellsOf,ints]
theorem S6(a:List Int)(ha:dR a)(hl:a.length<=100000):rk prog lF (.call 162 [V.m 0 0 a.length] [.cells (cellsOf a) []])=some (.d (nl (aV a)),[.cells (cellsOf a) []]):=by rw[tW (g:=nA) rfl];simp only[nA,qH];rw[if_pos ⟨trivial,Rk ha hl⟩]
theorem S4(a c:List Int)(ha:dR a)(hc:dR c)(hl:a.length<=100000)(hlc:c.length<=100000):rk prog lF (.call 164 [V.m 0 0 a.length,V.m 1 0 c.length] [.cells (cellsOf c) [],.cells (cellsOf a) []])=some (.d (.i .i64 (fV (aV a) (aV c))),[.cells (cellsOf c) [],.cells (cellsOf a) []]):=by rw[tW (g:=se) rfl];simp only[se,qH];rw[if_pos ⟨trivial,trivial,Rk ha hl,Rk hc hlc⟩];rfl
theorem RH(out:List Int)(x d:Int)(r:List Int):(out++x::r).set out.length d=out++d::r:=by rw[List.set_append_right _ _ (Nat.le_refl _),Nat.sub_self];rfl
theorem Gb(X Y A:List Int)(i b:Nat)(n:Nat)(hi:i<X.length)(hX:X.length<=100000)(T H:Nat)(b':Nat)(R:Option Out)(hA:A.length=X.length)(hTH:T<=H)(hHT:H-T<4294967296)(hH:H<18446744073709551616)
  (h:rk prog lF (.at_ 218 0 (fw 175) (IC (V.m 0 0 X.length) (V.m 1 0 Y.length) (b':Int) (n:Int) ((i+1:Nat):Int)) []
    [Ob.cells (cellsOf Y) [],Ob.cells (cellsOf (A.set i ((H-T:Nat):Int))) []])=R):
  rk prog lF (.at_ 218 0 (fw 521007)
 (OF (V.m 0 0 X.length) (V.m 1 0 Y.length) (b':Int) (i:Int) (T:Int) (H:Int) (n:Int) (i:Int))
 [] [Ob.cells (cellsOf Y) [],Ob.cells (cellsOf A) []])=R:=by
 rw[C4];have hb1:(0:Int)<=(i:Int)/\(i:Int)<((X.length:Nat):Int):=by omega
 have hb2:i<(cellsOf A).length:=by rw[eP];omega
 have hw1:u64.wrap ((H:Int)-(T:Int))=((H-T:Nat):Int):=by rw[aT];omega
 have hw2:u32.wrap ((H-T:Nat):Int)=((H-T:Nat):Int):=by rw[dj];omega
 have hw3:=Wv i;simp only[aP,decide_eq_true hb1,if_true,Int.toNat_natCast,decide_eq_true hb2,Bool.and_true,hw1,hw2,hw3,Nat.zero_add,ij,aA,h]
theorem RP(X Y A:List Int)(i:Nat)(n:Nat)(hi:i<X.length)(hX:X.length<=100000)(T x:Nat)(hx:x<4294967296)(hT:T<=4294967296)(R:Option Out)(hA:A.length=X.length)(hg:A[i]?=some (x:Int))
  (h:rk prog lF (.at_ 218 0 (fw 175) (IC (V.m 0 0 X.length) (V.m 1 0 Y.length) ((if x<T then 1 else 0:Nat):Int) (n:Int) ((i+1:Nat):Int)) []
    [Ob.cells (cellsOf Y) [],Ob.cells (cellsOf (A.set i (((x+W*(if x<T then 1 else 0)-T:Nat)):Int))) []])=R):
  rk prog lF (.at_ 218 0 (fw 62255)
 (Mn (V.m 0 0 X.length) (V.m 1 0 Y.length) (i:Int) (T:Int) (n:Int) (i:Int)) []
 [Ob.cells (cellsOf Y) [],Ob.cells (cellsOf A) []])=R:=by
 rw[FZ];have hb1:(0:Int)<=(i:Int)/\(i:Int)<((X.length:Nat):Int):=by omega
 have hw1:u64.wrap (x:Int)=(x:Int):=by rw[aT];omega
 have hw2:u64.wrap ((x:Int)+4294967296)=((x+4294967296:Nat):Int):=by rw[aT];omega
 simp only[aP,decide_eq_true hb1,if_true,Int.toNat_natCast,Nat.zero_add,dq,hg,Option.map_some,ca,Option.bind_some,bM,bH,hw1,hw2,aO,decide_eq_true_eq];by_cases hlt:x<T
 ·have hlt':(x:Int)<(T:Int):=by omega
  rw[if_pos hlt',aA];simp only[if_pos hlt,Nat.mul_one]at h;have e:x+W=x+4294967296:=rfl;rw[e]at h;exact Gb X Y A i 0 n hi hX T (x+4294967296) 1 R hA (by omega) (by omega) (by omega) h
 ·have hlt':¬(x:Int)<(T:Int):=by omega
  rw[if_neg hlt',aA];simp only[if_neg hlt,Nat.mul_zero,Nat.add_zero]at h;exact Gb X Y A i 0 n hi hX T x 0 R hA (by omega) (by omega) (by omega) h
theorem Px(X Y:List Int)(hX:dR X)(hY:dR Y)(lX:X.length<=100000)(lY:Y.length<=100000)(hYX:Y.length<=X.length)(hge:aV Y<=aV X):∀(d i:Nat) (out:List Int) (b:Nat),i+d=X.length->dR out->out.length=i->b<=1->aV out+aV (Y.take i)=aV (X.take i)+W^i*b->
  rk prog lF (.at_ 218 0 (fw 175) (IC (V.m 0 0 X.length) (V.m 1 0 Y.length) (b:Int) (X.length:Int) (i:Int)) []
    [Ob.cells (cellsOf Y) [],Ob.cells (cellsOf (out++X.drop i)) []])=some (.t [.d (nl (aV X-aV Y)),.d (.b true)],[]):=by
 intro d
 induction d with
 |zero=>
  intro i out b hi hu hl hb hv;rw[BB];have hd:X.drop i=[]:=List.drop_eq_nil_of_le (by omega);have hol:X.length=out.length:=by omega
  have h3:¬((i:Int)<((out.length:Nat):Int)):=by omega
  rw[hd,List.append_nil];rw[List.take_of_length_le (show Y.length<=i by omega),List.take_of_length_le (show X.length<=i by omega)]at hv;have hlt:=pK hu;rw[hl]at hlt;have hb0:b=0:=by
   rcases(show b=0\/b=1 by omega)with h|h
   ·exact h
   ·rw[h,Nat.mul_one]at hv;omega
  have hvo:aV out=aV X-aV Y:=by rw[hb0,Nat.mul_zero]at hv;omega
  have hcm:=S6 out hu (by omega);rw[hvo,mJ]at hcm;simp only[aO,decide_eq_false h3,Bool.false_eq_true,if_false,hol,aY,hcm,Option.bind_some,jJ,iv,kI,beq_self_eq_true,aP,if_true,bM,eH,aD];rfl
 |succ d ih=>
  intro i out b hi hu hl hb hv;have hiX:i<X.length:=by omega
  have h3:(i:Int)<((X.length:Nat):Int):=by omega
  obtain⟨x,ex,hx⟩:=hX.get hiX;have hdr:X.drop i=(x:Int)::X.drop (i+1):=by rw[List.drop_eq_getElem_cons hiX,ex]
  have hg:(out++X.drop i)[i]?=some (x:Int):=by rw[hdr,<-hl];simp
  have hAl:(out++X.drop i).length=X.length:=by rw[List.length_append,List.length_drop];omega
  have fin:∀T y:Nat,T=b+y->y<4294967296->aV (Y.take (i+1))=aV (Y.take i)+W^i*y->
    rk prog lF (.at_ 218 0 (fw 62255)
 (Mn (V.m 0 0 X.length) (V.m 1 0 Y.length) (i:Int) (T:Int) (X.length:Int) (i:Int)) []
 [Ob.cells (cellsOf Y) [],Ob.cells (cellsOf (out++X.drop i)) []])=some (.t [.d (nl (aV X-aV Y)),.d (.b true)],[]):=by
   intro T y hT hy hyv;refine RP X Y _ i _ hiX lX T x hx (by omega) _ hAl hg ?_;have hset:(out++X.drop i).set i (((x+W*(if x<T then 1 else 0)-T:Nat)):Int)=(out++[((x+W*(if x<T then 1 else 0)-T:Nat):Int)])++X.drop (i+1):=by rw[hdr,<-hl,RH];simp
   rw[hset];have hd1:x+W*(if x<T then 1 else 0)-T<4294967296:=by unfold W;split<;>omega
   have hd2:x+W*(if x<T then 1 else 0)-T+T=x+W*(if x<T then 1 else 0):=by unfold W;split<;>omega
   refine ih (i+1) _ (if x<T then 1 else 0) (by omega) (hu.snoc hd1) (by simp[hl]) (by split<;>omega) ?_;generalize x+W*(if x<T then 1 else 0)-T=dd at hd2;rw[ef,hl,mU X i hiX,ex,hyv];simp only[aV,Int.toNat_natCast,Nat.mul_zero,Nat.add_zero];rw[Nat.pow_succ];have e1:W^i*dd+W^i*T=W^i*x+W^i*(W*(if x<T then 1 else 0)):=by rw[<-Nat.mul_add,hd2,Nat.mul_add]
   rw[hT,Nat.mul_add]at e1;rw[<-hT]at e1;rw[Nat.mul_assoc];omega
  rw[BB];by_cases hiY:i<Y.length
  ·have h4:(i:Int)<((Y.length:Nat):Int):=by omega
   obtain⟨y,ey,hy⟩:=hY.get hiY;have gy:Y[i]?=some (y:Int):=by rw[List.getElem?_eq_getElem hiY,ey]
   have hb1:(0:Int)<=(i:Int)/\(i:Int)<((Y.length:Nat):Int):=by omega
   have hw:u64.wrap ((b:Int)+u64.wrap (y:Int))=((b+y:Nat):Int):=by rw[aT (y:Int),aT];omega
   simp only[aO,decide_eq_true h3,decide_eq_true h4,if_true,aP,decide_eq_true hb1,Int.toNat_natCast,Nat.zero_add,dq,gy,Option.map_some,ca,Option.bind_some,bM,bH,hw,aA];exact fin (b+y) y rfl hy (by rw[mU Y i hiY,ey,Int.toNat_natCast])
  ·have h4:¬(i:Int)<((Y.length:Nat):Int):=by omega
   simp only[aO,decide_eq_true h3,decide_eq_false h4,if_true,Bool.false_eq_true,if_false,aA];exact fin b 0 rfl (by decide) (by rw[List.take_of_length_le (by omega),List.take_of_length_le (by omega)];simp)
theorem RS(b c:Bool)(a e:List Int)(ha:dR a)(he:dR e)(la:a.length<=100000)(le:e.length<=100000):rk prog lF (.call 218 [vl b (ints .u32 a),vl c (ints .u32 e)] [])=some (Mx (aV a) (aV e),[]):=by
 rw[X4];have lx:=wQ ha;have ly:=wQ he;have c1:=No b a ha la;have c2:=No c e he le;have c3:=S4 (aQ (aV a)) (aQ (aV e)) (cU _) (cU _) (by omega) (by omega);rw[cQ,cQ]at c3;simp only[aY,c1,Option.bind_some,HC,yy,if_true,c2,c3,jJ,iv,kI,beq_self_eq_true,aP,bM,bH,aO,KR];unfold Mx;by_cases h:aV a<aV e
 ·rw[if_pos (by simpa using h),if_pos h];rfl
 ·rw[if_neg (by simpa using h),if_neg h]
  have hll:(aQ (aV e)).length<=(aQ (aV a)).length:=by
   rcases Nat.lt_or_ge (aQ (aV a)).length (aQ (aV e)).length with h' | h'
   ·exact absurd (tg h') h
   ·exact h'
  have:=Px (aQ (aV a)) (aQ (aV e)) (cU _) (cU _) (by omega) (by omega) hll (by rw[cQ,cQ];omega) (aQ (aV a)).length 0 [] 0 (by omega) dR.nil rfl (by decide) (by simp[aV]);rw[cQ,cQ,List.nil_append,List.drop_zero,Int.natCast_zero]at this;rw[this];rfl
end Go.Dn.Dec
namespace Go.Proofs
open Go.IntKind (i64 u64 u8 u16 i32 u32)
open Go.Shelf
def Tryz.lays161_ren:Go.Shelf.Ren:=⟨λ|161=>183|231=>209|227=>171|233=>210|235=>211|228=>200|197=>220|151=>202|260=>229|152=>221|137=>85|119=>230|224=>205|225=>204|217=>135|266=>180|n=>n,λ|9=>9|4=>4|3=>3|5=>5|117=>194|116=>193|0=>0|124=>197|105=>218|21=>21|119=>242|46=>144|139=>245|138=>244|n=>n,λ|3=>6|4=>7|n=>n⟩
theorem Tryz.lays161:Go.Proofs.Lays.n161 prog Tryz.lays161_ren:={
 mixed:=by kernel_rfl
 f119:=VC Tryz.func230
 f137:=VC Tryz.func85
 f151:=VC Tryz.func202
 f152:=VC Tryz.func221
 f161:=VC Tryz.func183
 f197:=VC Tryz.func220
 f217:=VC Tryz.func135
 f224:=VC Tryz.func205
 f225:=VC Tryz.func204
 f227:=VC Tryz.func171
 f228:=VC Tryz.func200
 f231:=VC Tryz.func209
 f233:=VC Tryz.func210
 f235:=VC Tryz.func211
 f260:=VC Tryz.func229
 f266:=VC Tryz.func180
 t0:=Tryz.underlying0
 a0:=Tryz.isAgg0
 z0:=Tryz.sizeOf0
 v0:=Tryz.zeroValue0
 t3:=Tryz.underlying3
 a3:=Tryz.isAgg3
 z3:=Tryz.sizeOf3
 v3:=Tryz.zeroValue3
 t4:=Tryz.underlying4
 a4:=Tryz.isAgg4
 z4:=Tryz.sizeOf4
 v4:=Tryz.zeroValue4
 t5:=Tryz.underlying5
 a5:=Tryz.isAgg5
 z5:=Tryz.sizeOf5
 v5:=Tryz.zeroValue5
 t9:=Tryz.underlying9
 a9:=Tryz.isAgg9
 z9:=Tryz.sizeOf9
 v9:=Tryz.zeroValue9
 t21:=Tryz.underlying21
 a21:=Tryz.isAgg21
 z21:=Tryz.sizeOf21
 v21:=Tryz.zeroValue21
 t46:=Tryz.underlying144
 a46:=Tryz.isAgg144
 z46:=Tryz.sizeOf144
 v46:=Tryz.zeroValue144
 t105:=Tryz.underlying218
 a105:=Tryz.isAgg218
 z105:=Tryz.sizeOf218
 v105:=Tryz.zeroValue218
 t116:=Tryz.underlying193
 a116:=Tryz.isAgg193
 z116:=Tryz.sizeOf193
 t117:=Tryz.underlying194
 a117:=Tryz.isAgg194
 z117:=Tryz.sizeOf194
 v117:=Tryz.zeroValue194
 t119:=Tryz.underlying242
 a119:=Tryz.isAgg242
 z119:=Tryz.sizeOf242
 t124:=Tryz.underlying197
 a124:=Tryz.isAgg197
 z124:=Tryz.sizeOf197
 v124:=Tryz.zeroValue197
 t138:=Tryz.underlying244
 a138:=Tryz.isAgg244
 z138:=Tryz.sizeOf244
 v138:=Tryz.zeroValue244
 t139:=Tryz.underlying245
 a139:=Tryz.isAgg245
 z139:=Tryz.sizeOf245
 v139:=Tryz.zeroValue245
 g3:=by kernel_rfl
 g4:=by kernel_rfl }
open Go.RowKit in
theorem Tryz.strings_TrimLeft_one(s:ByteArray)(c:UInt8)(hc:c.toNat<128)(w:World):
  Calls prog 183 #[.string s,.string ⟨#[c]⟩] w λ e w'=>e = .returned (.string ⟨(Lib.trimLeftB s.data.toList c).toArray⟩)/\w'=w:=Any.strings_TrimLeft_one Tryz.lays161 s c hc w
def Tryz.lays162_ren:Go.Shelf.Ren:=⟨λ|162=>117|232=>170|227=>171|234=>172|236=>173|228=>200|271=>201|151=>202|120=>219|197=>220|152=>221|260=>229|137=>85|119=>230|224=>205|225=>204|217=>135|266=>180|n=>n,λ|9=>9|4=>4|3=>3|5=>5|117=>194|116=>193|0=>0|124=>197|21=>21|105=>218|46=>144|119=>242|139=>245|138=>244|n=>n,λ|3=>6|4=>7|n=>n⟩
theorem Tryz.lays162:Go.Proofs.Lays.n162 prog Tryz.lays162_ren:={
 mixed:=by kernel_rfl
 f119:=VC Tryz.func230
 f120:=VC Tryz.func219
 f137:=VC Tryz.func85
 f151:=VC Tryz.func202
 f152:=VC Tryz.func221
 f162:=VC Tryz.func117
 f197:=VC Tryz.func220
 f217:=VC Tryz.func135
 f224:=VC Tryz.func205
 f225:=VC Tryz.func204
 f227:=VC Tryz.func171
 f228:=VC Tryz.func200
 f232:=VC Tryz.func170
 f234:=VC Tryz.func172
 f236:=VC Tryz.func173
 f260:=VC Tryz.func229
 f266:=VC Tryz.func180
 f271:=VC Tryz.func201
 t0:=Tryz.underlying0
 a0:=Tryz.isAgg0
 z0:=Tryz.sizeOf0
 v0:=Tryz.zeroValue0
 t3:=Tryz.underlying3
 a3:=Tryz.isAgg3
 z3:=Tryz.sizeOf3
 v3:=Tryz.zeroValue3
 t4:=Tryz.underlying4
 a4:=Tryz.isAgg4
 z4:=Tryz.sizeOf4
 v4:=Tryz.zeroValue4
 t5:=Tryz.underlying5
 a5:=Tryz.isAgg5
 z5:=Tryz.sizeOf5
 v5:=Tryz.zeroValue5
 t9:=Tryz.underlying9
 a9:=Tryz.isAgg9
 z9:=Tryz.sizeOf9
 v9:=Tryz.zeroValue9
 t21:=Tryz.underlying21
 a21:=Tryz.isAgg21
 z21:=Tryz.sizeOf21
 v21:=Tryz.zeroValue21
 t46:=Tryz.underlying144
 a46:=Tryz.isAgg144
 z46:=Tryz.sizeOf144
 v46:=Tryz.zeroValue144
 t105:=Tryz.underlying218
 a105:=Tryz.isAgg218
 z105:=Tryz.sizeOf218
 v105:=Tryz.zeroValue218
 t116:=Tryz.underlying193
 a116:=Tryz.isAgg193
 z116:=Tryz.sizeOf193
 t117:=Tryz.underlying194
 a117:=Tryz.isAgg194
 z117:=Tryz.sizeOf194
 v117:=Tryz.zeroValue194
 t119:=Tryz.underlying242
 a119:=Tryz.isAgg242
 z119:=Tryz.sizeOf242
 t124:=Tryz.underlying197
 a124:=Tryz.isAgg197
 z124:=Tryz.sizeOf197
 v124:=Tryz.zeroValue197
 t138:=Tryz.underlying244
 a138:=Tryz.isAgg244
 z138:=Tryz.sizeOf244
 v138:=Tryz.zeroValue244
 t139:=Tryz.underlying245
 a139:=Tryz.isAgg245
 z139:=Tryz.sizeOf245
 v139:=Tryz.zeroValue245
 g3:=by kernel_rfl
 g4:=by kernel_rfl }
open Go.RowKit in
theorem Tryz.strings_TrimRight_one(s:ByteArray)(c:UInt8)(hc:c.toNat<128)(w:World)(hs:s.size<=9223372036854775807):
  Calls prog 117 #[.string s,.string ⟨#[c]⟩] w λ e w'=>e = .returned (.string ⟨(Lib.trimRightB s.data.toList c).toArray⟩)/\w'=w:=Any.strings_TrimRight_one Tryz.lays162 s c hc w hs
def Tryz.lays128_ren:Go.Shelf.Ren:=⟨λ|128=>163|n=>n,λ|51=>147|3=>3|4=>4|46=>144|5=>5|9=>9|n=>n,λ|n=>n⟩
theorem Tryz.lays128:Go.Proofs.Lays.n128 prog Tryz.lays128_ren:={
 mixed:=by kernel_rfl
 f128:=VC Tryz.func163
 t3:=Tryz.underlying3
 a3:=Tryz.isAgg3
 z3:=Tryz.sizeOf3
 v3:=Tryz.zeroValue3
 t4:=Tryz.underlying4
 a4:=Tryz.isAgg4
 z4:=Tryz.sizeOf4
 v4:=Tryz.zeroValue4
 t5:=Tryz.underlying5
 a5:=Tryz.isAgg5
 z5:=Tryz.sizeOf5
 v5:=Tryz.zeroValue5
 t9:=Tryz.underlying9
 a9:=Tryz.isAgg9
 z9:=Tryz.sizeOf9
 v9:=Tryz.zeroValue9
 t46:=Tryz.underlying144
 a46:=Tryz.isAgg144
 z46:=Tryz.sizeOf144
 v46:=Tryz.zeroValue144
 t51:=Tryz.underlying147
 a51:=Tryz.isAgg147
 z51:=Tryz.sizeOf147
 v51:=Tryz.zeroValue147 }
theorem Tryz.bits_Len32(x:Int)(w:World)(h0:0<=x)(h1:x<=4294967295):
  Calls prog 163 #[.int .u32 x] w λ e w'=>e = .returned (.int .i64 (Lib.bitLen x.toNat))/\w'=w:=Any.bits_Len32 Tryz.lays128 x w h0 h1
def Tryz.lays137_ren:Go.Shelf.Ren:=⟨λ|137=>85|217=>135|266=>180|n=>n,λ|9=>9|5=>5|3=>3|n=>n,λ|n=>n⟩
theorem Tryz.lays137:Go.Proofs.Lays.n137 prog Tryz.lays137_ren:={
 mixed:=by kernel_rfl
 f137:=VC Tryz.func85
 f217:=VC Tryz.func135
 f266:=VC Tryz.func180
 t3:=Tryz.underlying3
 a3:=Tryz.isAgg3
 z3:=Tryz.sizeOf3
 v3:=Tryz.zeroValue3
 t5:=Tryz.underlying5
 a5:=Tryz.isAgg5
 z5:=Tryz.sizeOf5
 v5:=Tryz.zeroValue5
 t9:=Tryz.underlying9
 a9:=Tryz.isAgg9
 z9:=Tryz.sizeOf9
 v9:=Tryz.zeroValue9 }
open Go.RowKit in
theorem Tryz.strings_IndexByte(s:ByteArray)(c:Int)(w:World):
  Calls prog 85 #[.string s,.int .u8 c] w λ e w'=>e = .returned (.int .i64 (Lib.indexByte s.data.toList c.toNat.toUInt8))/\w'=w:=Any.strings_IndexByte Tryz.lays137 s c w
def Tryz.lays283_ren:Go.Shelf.Ren:=⟨λ|283=>156|n=>n,λ|3=>3|9=>9|4=>4|n=>n,λ|n=>n⟩
theorem Tryz.lays283:Go.Proofs.Lays.n283 prog Tryz.lays283_ren:={
 mixed:=by kernel_rfl
 f283:=VC Tryz.func156
 t3:=Tryz.underlying3
 a3:=Tryz.isAgg3
 z3:=Tryz.sizeOf3
 v3:=Tryz.zeroValue3
 t4:=Tryz.underlying4
 a4:=Tryz.isAgg4
 z4:=Tryz.sizeOf4
 v4:=Tryz.zeroValue4
 t9:=Tryz.underlying9
 a9:=Tryz.isAgg9
 z9:=Tryz.sizeOf9
 v9:=Tryz.zeroValue9 }
open Go.Lib in
theorem Tryz.internal_strconv_small(i:Nat)(h:i<100)(w:World):
  Calls prog 156 #[.int .i64 i] w λ e w'=>e = .returned (.string ⟨(Lib.decDigits i).toArray⟩)/\w'=w:=Any.internal_strconv_small Tryz.lays283 i h w
def Tryz.laysM284_ren:Go.Shelf.Ren:=⟨λ|284=>157|129=>191|317=>190|318=>192|n=>n,λ|53=>49|3=>3|212=>214|0=>0|4=>4|46=>144|5=>5|9=>9|n=>n,λ|17=>0|n=>n⟩
theorem Tryz.laysM284:Go.Proofs.LaysM.n284 prog Tryz.laysM284_ren:={
 mixed:=by kernel_rfl
 f129:=VC Tryz.func191
 f284:=VC Tryz.func157
 f317:=VC Tryz.func190
 f318:=VC Tryz.func192
 t0:=Tryz.underlying0
 a0:=Tryz.isAgg0
 z0:=Tryz.sizeOf0
 v0:=Tryz.zeroValue0
 t3:=Tryz.underlying3
 a3:=Tryz.isAgg3
 z3:=Tryz.sizeOf3
 v3:=Tryz.zeroValue3
 t4:=Tryz.underlying4
 a4:=Tryz.isAgg4
 z4:=Tryz.sizeOf4
 v4:=Tryz.zeroValue4
 t5:=Tryz.underlying5
 a5:=Tryz.isAgg5
 z5:=Tryz.sizeOf5
 v5:=Tryz.zeroValue5
 t9:=Tryz.underlying9
 a9:=Tryz.isAgg9
 z9:=Tryz.sizeOf9
 v9:=Tryz.zeroValue9
 t46:=Tryz.underlying144
 a46:=Tryz.isAgg144
 z46:=Tryz.sizeOf144
 v46:=Tryz.zeroValue144
 t53:=Tryz.underlying49
 a53:=Tryz.isAgg49
 z53:=Tryz.sizeOf49
 v53:=Tryz.zeroValue49
 t212:=Tryz.underlying214
 a212:=Tryz.isAgg214
 z212:=Tryz.sizeOf214
 v212:=Tryz.zeroValue214
 g17:=by kernel_rfl
 i0:=by kernel_rfl
 i3:=by kernel_rfl
 i4:=by kernel_rfl
 i5:=by kernel_rfl
 i9:=by kernel_rfl
 i46:=by kernel_rfl
 i53:=by kernel_rfl
 i212:=by kernel_rfl
 m17:=by kernel_rfl }
open Go.Lib in
theorem Tryz.internal_strconv_numDigits (u : Nat) (h1 : 1 ≤ u) (h2 : u < 18446744073709551616) (w : World) (htab : Lib.TabIs prog w "internal/strconv.uint64pow10" .u64 Lib.pow10Tab) :
  Calls prog 157 #[.int .u64 u] w λ e w'=>e = .returned (.int .i64 (Lib.nDigits u))/\w'=w:=Any.internal_strconv_numDigits Tryz.laysM284 u h1 h2 w htab
def Tryz.lays285_ren:Go.Shelf.Ren:=⟨λ|285=>158|n=>n,λ|37=>22|53=>49|3=>3|4=>4|51=>147|9=>9|5=>5|0=>0|n=>n,λ|n=>n⟩
theorem Tryz.lays285:Go.Proofs.Lays.n285 prog Tryz.lays285_ren:={
 mixed:=by kernel_rfl
 f285:=VC Tryz.func158
 t0:=Tryz.underlying0
 a0:=Tryz.isAgg0
 z0:=Tryz.sizeOf0
 v0:=Tryz.zeroValue0
 t3:=Tryz.underlying3
 a3:=Tryz.isAgg3
 z3:=Tryz.sizeOf3
 v3:=Tryz.zeroValue3
 t4:=Tryz.underlying4
 a4:=Tryz.isAgg4
 z4:=Tryz.sizeOf4
 v4:=Tryz.zeroValue4
 t5:=Tryz.underlying5
 a5:=Tryz.isAgg5
 z5:=Tryz.sizeOf5
 v5:=Tryz.zeroValue5
 t9:=Tryz.underlying9
 a9:=Tryz.isAgg9
 z9:=Tryz.sizeOf9
 v9:=Tryz.zeroValue9
 t37:=Tryz.underlying22
 a37:=Tryz.isAgg22
 z37:=Tryz.sizeOf22
 v37:=Tryz.zeroValue22
 t51:=Tryz.underlying147
 a51:=Tryz.isAgg147
 z51:=Tryz.sizeOf147
 v51:=Tryz.zeroValue147
 t53:=Tryz.underlying49
 a53:=Tryz.isAgg49
 z53:=Tryz.sizeOf49
 v53:=Tryz.zeroValue49 }
open Go.RowKit Go.Sort Go.Lib in
theorem Tryz.internal_strconv_formatBase10(blk off cap:Nat)(u:Nat)(d:Array UInt8)(w:World)(hH:Holds (λ (b:UInt8)=>Value.int .u8 (b.toNat:Int)) w blk off d)(hu:u<10^d.size)(hu64:u<18446744073709551616)(hsz:d.size<4611686018427387904):
  Calls prog 158 #[.slice (some ⟨blk,off,none⟩) d.size cap,.int .u64 u] w λ e w'=>
   e = .returned (.tuple #[])/\∃(n v':Nat) (dk:Array UInt8),w'=(putRow (λ (b:UInt8)=>Value.int .u8 (b.toNat:Int)) w blk off dk).drewN n/\FmtInv d.size u 0 v' dk:=Any.internal_strconv_formatBase10 Tryz.lays285 blk off cap u d w hH hu hu64 hsz
def Tryz.laysM171_ren:Go.Shelf.Ren:=⟨λ|171=>118|243=>174|246=>111|283=>156|284=>157|285=>158|286=>159|129=>191|317=>190|318=>192|319=>193|320=>194|337=>216|338=>217|n=>n,λ|3=>3|9=>9|2=>2|4=>4|171=>184|0=>0|53=>49|37=>22|5=>5|173=>187|212=>214|51=>147|20=>20|213=>215|46=>144|232=>236|233=>237|n=>n,λ|17=>0|18=>2|19=>3|n=>n⟩
theorem Tryz.laysM171:Go.Proofs.LaysM.n171 prog Tryz.laysM171_ren:={
 mixed:=by kernel_rfl
 f129:=VC Tryz.func191
 f171:=VC Tryz.func118
 f243:=VC Tryz.func174
 f246:=VC Tryz.func111
 f283:=VC Tryz.func156
 f284:=VC Tryz.func157
 f285:=VC Tryz.func158
 f286:=VC Tryz.func159
 f317:=VC Tryz.func190
 f318:=VC Tryz.func192
 f319:=VC Tryz.func193
 f320:=VC Tryz.func194
 f337:=VC Tryz.func216
 f338:=VC Tryz.func217
 t0:=Tryz.underlying0
 a0:=Tryz.isAgg0
 z0:=Tryz.sizeOf0
 v0:=Tryz.zeroValue0
 t2:=Tryz.underlying2
 a2:=Tryz.isAgg2
 z2:=Tryz.sizeOf2
 v2:=Tryz.zeroValue2
 t3:=Tryz.underlying3
 a3:=Tryz.isAgg3
 z3:=Tryz.sizeOf3
 v3:=Tryz.zeroValue3
 t4:=Tryz.underlying4
 a4:=Tryz.isAgg4
 z4:=Tryz.sizeOf4
 v4:=Tryz.zeroValue4
 t5:=Tryz.underlying5
 a5:=Tryz.isAgg5
 z5:=Tryz.sizeOf5
 v5:=Tryz.zeroValue5
 t9:=Tryz.underlying9
 a9:=Tryz.isAgg9
 z9:=Tryz.sizeOf9
 v9:=Tryz.zeroValue9
 t20:=Tryz.underlying20
 a20:=Tryz.isAgg20
 z20:=Tryz.sizeOf20
 v20:=Tryz.zeroValue20
 t37:=Tryz.underlying22
 a37:=Tryz.isAgg22
 z37:=Tryz.sizeOf22
 v37:=Tryz.zeroValue22
 t46:=Tryz.underlying144
 a46:=Tryz.isAgg144
 z46:=Tryz.sizeOf144
 v46:=Tryz.zeroValue144
 t51:=Tryz.underlying147
 a51:=Tryz.isAgg147
 z51:=Tryz.sizeOf147
 v51:=Tryz.zeroValue147
 t53:=Tryz.underlying49
 a53:=Tryz.isAgg49
 z53:=Tryz.sizeOf49
 v53:=Tryz.zeroValue49
 t171:=Tryz.underlying184
 a171:=Tryz.isAgg184
 z171:=Tryz.sizeOf184
 v171:=Tryz.zeroValue184
 t173:=Tryz.underlying187
 a173:=Tryz.isAgg187
 z173:=Tryz.sizeOf187
 v173:=Tryz.zeroValue187
 t212:=Tryz.underlying214
 a212:=Tryz.isAgg214
 z212:=Tryz.sizeOf214
 v212:=Tryz.zeroValue214
 t213:=Tryz.underlying215
 a213:=Tryz.isAgg215
 z213:=Tryz.sizeOf215
 t232:=Tryz.underlying236
 a232:=Tryz.isAgg236
 z232:=Tryz.sizeOf236
 v232:=Tryz.zeroValue236
 t233:=Tryz.underlying237
 a233:=Tryz.isAgg237
 z233:=Tryz.sizeOf237
 v233:=Tryz.zeroValue237
 g17:=by kernel_rfl
 g18:=by kernel_rfl
 g19:=by kernel_rfl
 i0:=by kernel_rfl
 i2:=by kernel_rfl
 i3:=by kernel_rfl
 i4:=by kernel_rfl
 i5:=by kernel_rfl
 i9:=by kernel_rfl
 i20:=by kernel_rfl
 i37:=by kernel_rfl
 i46:=by kernel_rfl
 i51:=by kernel_rfl
 i53:=by kernel_rfl
 i171:=by kernel_rfl
 i173:=by kernel_rfl
 i212:=by kernel_rfl
 i232:=by kernel_rfl
 i233:=by kernel_rfl
 m17:=by kernel_rfl
 m18:=by kernel_rfl
 m19:=by kernel_rfl }
open Go.RowKit Go.Sort Go.Lib in
theorem Tryz.strconv_Itoa (n : Int) (h0 : -9223372036854775808 ≤ n) (h1 : n ≤ 9223372036854775807) (w : World) (htab : Lib.TabIs prog w "internal/strconv.uint64pow10" .u64 Lib.pow10Tab) :
  Calls prog 118 #[.int .i64 n] w λ e w'=>e = .returned (.string ⟨(Lib.itoa n).toArray⟩)/\∃k os,w'=grow (w.drewN k) os:=Any.strconv_Itoa Tryz.laysM171 n h0 h1 w htab
def Tryz.lays143_ren:Go.Shelf.Ren:=⟨λ|143=>123|219=>177|217=>135|225=>204|224=>205|267=>206|266=>180|314=>222|n=>n,λ|9=>9|3=>3|4=>4|5=>5|46=>144|146=>229|51=>147|n=>n,λ|1=>1|n=>n⟩
theorem Tryz.lays143:Go.Proofs.Lays.n143 prog Tryz.lays143_ren:={
 mixed:=by kernel_rfl
 f143:=VC Tryz.func123
 f217:=VC Tryz.func135
 f219:=VC Tryz.func177
 f224:=VC Tryz.func205
 f225:=VC Tryz.func204
 f266:=VC Tryz.func180
 f267:=VC Tryz.func206
 f314:=VC Tryz.func222
 t3:=Tryz.underlying3
 a3:=Tryz.isAgg3
 z3:=Tryz.sizeOf3
 v3:=Tryz.zeroValue3
 t4:=Tryz.underlying4
 a4:=Tryz.isAgg4
 z4:=Tryz.sizeOf4
 v4:=Tryz.zeroValue4
 t5:=Tryz.underlying5
 a5:=Tryz.isAgg5
 z5:=Tryz.sizeOf5
 v5:=Tryz.zeroValue5
 t9:=Tryz.underlying9
 a9:=Tryz.isAgg9
 z9:=Tryz.sizeOf9
 v9:=Tryz.zeroValue9
 t46:=Tryz.underlying144
 a46:=Tryz.isAgg144
 z46:=Tryz.sizeOf144
 v46:=Tryz.zeroValue144
 t51:=Tryz.underlying147
 a51:=Tryz.isAgg147
 z51:=Tryz.sizeOf147
 v51:=Tryz.zeroValue147
 t146:=Tryz.underlying229
 a146:=Tryz.isAgg229
 z146:=Tryz.sizeOf229
 v146:=Tryz.zeroValue229
 g1:=by kernel_rfl }
open Go.RowKit Go.Lib in
theorem Tryz.strings_Index(s sub:ByteArray)(m:Int)(w:World)(hs:s.size<4294967281)(hm:w.cell? ⟨1,0,none⟩=some (.int .i64 m)):
  Calls prog 123 #[.string s,.string sub] w λ e w'=>e = .returned (.int .i64 (Lib.index s.data.toList sub.data.toList))/\w'=w:=Any.strings_Index Tryz.lays143 s sub m w hs hm
def Tryz.lays144_ren:Go.Shelf.Ren:=⟨λ|144=>57|143=>123|219=>177|217=>135|225=>204|224=>205|267=>206|266=>180|314=>222|n=>n,λ|9=>9|4=>4|3=>3|5=>5|46=>144|146=>229|51=>147|n=>n,λ|1=>1|n=>n⟩
theorem Tryz.lays144:Go.Proofs.Lays.n144 prog Tryz.lays144_ren:={
 mixed:=by kernel_rfl
 f143:=VC Tryz.func123
 f144:=VC Tryz.func57
 f217:=VC Tryz.func135
 f219:=VC Tryz.func177
 f224:=VC Tryz.func205
 f225:=VC Tryz.func204
 f266:=VC Tryz.func180
 f267:=VC Tryz.func206
 f314:=VC Tryz.func222
 t3:=Tryz.underlying3
 a3:=Tryz.isAgg3
 z3:=Tryz.sizeOf3
 v3:=Tryz.zeroValue3
 t4:=Tryz.underlying4
 a4:=Tryz.isAgg4
 z4:=Tryz.sizeOf4
 v4:=Tryz.zeroValue4
 t5:=Tryz.underlying5
 a5:=Tryz.isAgg5
 z5:=Tryz.sizeOf5
 v5:=Tryz.zeroValue5
 t9:=Tryz.underlying9
 a9:=Tryz.isAgg9
 z9:=Tryz.sizeOf9
 v9:=Tryz.zeroValue9
 t46:=Tryz.underlying144
 a46:=Tryz.isAgg144
 z46:=Tryz.sizeOf144
 v46:=Tryz.zeroValue144
 t51:=Tryz.underlying147
 a51:=Tryz.isAgg147
 z51:=Tryz.sizeOf147
 v51:=Tryz.zeroValue147
 t146:=Tryz.underlying229
 a146:=Tryz.isAgg229
 z146:=Tryz.sizeOf229
 v146:=Tryz.zeroValue229
 g1:=by kernel_rfl }
open Go.RowKit Go.Lib in
theorem Tryz.strings_Contains(s sub:ByteArray)(m:Int)(w:World)(hs:s.size<4294967281)(hm:w.cell? ⟨1,0,none⟩=some (.int .i64 m)):
  Calls prog 57 #[.string s,.string sub] w λ e w'=>e = .returned (.bool (Lib.contains s.data.toList sub.data.toList))/\w'=w:=Any.strings_Contains Tryz.lays144 s sub m w hs hm
def Tryz.lays100_ren:Go.Shelf.Ren:=⟨λ|100=>138|207=>181|n=>n,λ|9=>9|4=>4|3=>3|n=>n,λ|n=>n⟩
theorem Tryz.lays100:Go.Proofs.Lays.n100 prog Tryz.lays100_ren:={
 mixed:=by kernel_rfl
 f100:=VC Tryz.func138
 f207:=VC Tryz.func181
 t3:=Tryz.underlying3
 a3:=Tryz.isAgg3
 z3:=Tryz.sizeOf3
 v3:=Tryz.zeroValue3
 t4:=Tryz.underlying4
 a4:=Tryz.isAgg4
 z4:=Tryz.sizeOf4
 v4:=Tryz.zeroValue4
 t9:=Tryz.underlying9
 a9:=Tryz.isAgg9
 z9:=Tryz.sizeOf9
 v9:=Tryz.zeroValue9 }
open Go.RowKit Go.Lib in
theorem Tryz.strings_HasSuffix(s p:ByteArray)(w:World)(hs:s.size<=9223372036854775807):
  Calls prog 138 #[.string s,.string p] w λ e w'=>e = .returned (.bool (Lib.hasSuffix s.data.toList p.data.toList))/\w'=w:=Any.strings_HasSuffix Tryz.lays100 s p w hs
open Go.Shelf Go.RowKit Go.Sort Go.Lib
set_option maxRecDepth 100000 in
theorem Tryz.internal_FormatUint_10(u:Nat)(hu64:u<18446744073709551616)(w:World)
  (htab : Lib.TabIs prog w "internal/strconv.uint64pow10" .u64 Lib.pow10Tab) :
  Calls prog 197 #[.int .u64 u,.int .i64 10] w λ e w'=>e = .returned (.string ⟨(Lib.decDigits u).toArray⟩)/\∃k os,w'=grow (w.drewN k) os:=by
 by_cases hs:u<100
 ·have h100:(u:Int)<100:=by omega
  have hw:i64.wrap (u:Int)=(u:Int):=by rw[IntKind.wrap_i64];omega
  go_enter Tryz.func197,Tryz.ntmps197
  go_wp2_with (go_at_call 156;refine(Tryz.internal_strconv_small u hs _).mono ?_;rintro e w' ⟨rfl,rfl⟩)
  go_ret
  refine⟨rfl,0,#[],by simp[World.drewN_zero]⟩
 ·have h100:¬(u:Int)<100:=by omega
  have hu1:1<=u:=by omega
  have hnd20:Lib.nDigits u<=20:=by have:=Lib.numDigits_eq u hu1 hu64;split at this<;>omega
  have hb3:Lib.nDigits u<=24:=by omega
  have hal:prog.arrayLen 184=24:=by simp[Program.arrayLen,Tryz.underlying184]
  have hsl1:∀W,(Instr.sliceAt 184 (.pointer (some ⟨w.heap.size,0,none⟩)) none (some (.int .i64 (Lib.nDigits u:Int))) none).run prog W = .ok (.slice (some ⟨w.heap.size,0,none⟩) (Lib.nDigits u) 24) W:=λ W=>by
   rw[run_sliceAt_array_h W 184 ⟨w.heap.size,0,none⟩ (by simp[Program.arrayLen,Program.elem,Tryz.underlying184]) .i64 (Lib.nDigits u:Int) (by omega) (by rw[hal];omega)]
   go_simp
  have hH0:=Lib.holds_zero0 w 184 (Lib.nDigits u) (by omega);have hfmt:=Tryz.internal_strconv_formatBase10 w.heap.size 0 24 u (Array.replicate (Lib.nDigits u) 0) (w.alloc (.cells Lib.zeros24 184)) hH0 (by rw[Array.size_replicate];exact Lib.lt_pow_nDigits u) hu64 (by rw[Array.size_replicate];omega);rw[Array.size_replicate]at hfmt;have HH0:=Lib.hid hH0;clear hH0 hal
  go_enter Tryz.func197,Tryz.ntmps197
  go_wp2_with (go_at_call 157;refine(Tryz.internal_strconv_numDigits u hu1 hu64 _ (Lib.tabIs_alloc htab _)).mono ?_;rintro e w' ⟨rfl,rfl⟩)
  go_at_call 158
  refine hfmt.mono ?_;rintro e w' ⟨rfl,k,v',dk,rfl,hF⟩;have hcv:(convert 22 9 (.slice (some ⟨w.heap.size,0,none⟩) (Lib.nDigits u) 24)).run prog ((putRow (λ (b:UInt8)=>Value.int .u8 (b.toNat:Int)) (w.alloc (.cells Lib.zeros24 184)) w.heap.size 0 dk).drewN k) = .ok (.string ⟨(Lib.decDigits u).toArray⟩) ((putRow (λ (b:UInt8)=>Value.int .u8 (b.toNat:Int)) (w.alloc (.cells Lib.zeros24 184)) w.heap.size 0 dk).drewN k):=by
   have h:=run_convert_bytes_back (P:=prog) ((putRow (λ (b:UInt8)=>Value.int .u8 (b.toNat:Int)) (w.alloc (.cells Lib.zeros24 184)) w.heap.size 0 dk).drewN k) 22 9 5 ⟨w.heap.size,0,none⟩ 24 (Lib.decDigits u) Tryz.underlying22 Tryz.underlying5 Tryz.underlying9 (λ j hj=>by
    rw[Lib.row_is_numeral hF j hj,Lib.add_plain,World.cell?_drewN]
    exact cell?_putRow (λ (b:UInt8)=>Value.int .u8 (b.toNat:Int)) _ w.heap.size 0 _ dk HH0.out (by rw[hF.size,Array.size_replicate]) j (by rw[hF.size];rw[Lib.decDigits_length]at hj;exact hj))
   rw[Lib.decDigits_length]at h;exact h
  go_wp2
  go_ret
  refine⟨rfl,k,?_⟩;rw[alloc_eq_grow];obtain⟨os',_,e⟩:=putRow_grow_new (λ (b:UInt8)=>Value.int .u8 (b.toNat:Int)) w #[.cells Lib.zeros24 184] w.heap.size 0 dk (Nat.le_refl _);exact⟨os',by rw[e];rfl⟩
theorem Tryz.strconv_FormatUint_10(u:Nat)(hu64:u<18446744073709551616)(w:World)
  (htab : Lib.TabIs prog w "internal/strconv.uint64pow10" .u64 Lib.pow10Tab) :
  Calls prog 167 #[.int .u64 u,.int .i64 10] w λ e w'=>e = .returned (.string ⟨(Lib.decDigits u).toArray⟩)/\∃k os,w'=grow (w.drewN k) os:=by
 go_enter Tryz.func167,Tryz.ntmps167
 go_wp2_with (go_at_call 197;refine(Tryz.internal_FormatUint_10 u hu64 _ htab).mono ?_;rintro e w' ⟨rfl,k,os,rfl⟩)
 go_ret
 exact⟨rfl,k,os,rfl⟩
end Go.Proofs
namespace Go.Dn.Dec
open Go.IntKind (i64 u64 u8 u16 i32 u32)
open Go.Proofs
open Tryz (prog)
theorem Gx(a:List Int):lv .u32 (ints .u32 a)=some a:=by
 induction a with
 |nil=>rfl
 |cons z a ih=>
  rw[AT,lv,if_pos rfl,ih];rfl
theorem Jd{a:List Int}(h:dR a):(a.all λ z=>decide (0<=z)&&decide (z<4294967296))=true:=by rw[List.all_eq_true];intro z hz;have:=h z hz;simp[this.1,this.2]
theorem Ue(b c:Bool)(x y:Nat)(hx:Fits x)(hy:Fits y):rk prog aF (.call 218 [vl b (ws x),vl c (ws y)] [])=some (Mx x y,[]):=by rw[fp (g:=yO) rfl];have lx:=hx.len;have ly:=hy.len;simp only[yO,ws,Gx];rw[if_pos ⟨Jd (cU x),Jd (cU y),by omega,by omega⟩,cQ,cQ]
theorem AY(n k:Nat)(h:k<(aQ n).length):(aQ n)[k]?=some ((n / W^k%W:Nat):Int):=by
 induction k generalizing n with
 |zero=>
  by_cases h0:n=0
  ·subst h0;rw[cc]at h;simp at h
  ·rw[fi h0];simp
 |succ k ih=>
  by_cases h0:n=0
  ·subst h0;rw[cc]at h;simp at h
  ·rw[fi h0]at h⊢;rw[List.getElem?_cons_succ,ih _ (by simpa using h),Nat.pow_succ,Nat.mul_comm (W^k),Nat.div_div_eq_div_mul]
theorem kg(a b:Nat):(a:Int).fdiv (b:Int)=((a / b:Nat):Int):=by rw[Int.fdiv_eq_ediv_of_nonneg _ (by omega)];rfl
theorem and_one{a:Nat}(h:a<4294967296):(BitVec.ofInt 32 (a:Int) &&& BitVec.ofInt 32 1).toNat=a%2:=by rw[BitVec.toNat_and,BitVec.ofInt_natCast,BitVec.toNat_ofNat,Nat.mod_eq_of_lt (by simpa using h)];exact Nat.and_one_is_mod a
theorem DI(x i:Nat):x / W^(i / 32)%W / 2^(i%32)%2=x / 2^i%2:=by
 have hk:i%32<32:=Nat.mod_lt _ (by decide);have e:W=2^(i%32)*2^(32-i%32):=by rw[<-Nat.pow_add,show i%32+(32-i%32)=32 by omega];rfl
 rw[show x / W^(i / 32)%W=x / W^(i / 32)%(2^(i%32)*2^(32-i%32)) by rw[<-e]];rw[Nat.mod_mul_right_div_self,Nat.mod_mod_of_dvd,Nat.div_div_eq_div_mul,nu,<-Nat.pow_add,Nat.div_add_mod];exact⟨2^(32-i%32-1),by rw[<-Nat.pow_add_one'];congr 1;omega⟩
def dT(bx by_:Bool)(x y n:Nat)(br:Bool)(r:Nat)(i:Int)(fl:List (Nat×Nat))(qs:List Int):Task:=
 Task.at_ 198 0 (fw 175) (JB bx (ws x) by_ (ws y) (V.m 0 0 n) br (ws r) i) fl [Ob.cells (cellsOf qs) []]
def dM(bx by_:Bool)(x y n:Nat)(br:Bool)(r:Nat)(i:Int)(qs:List Int):Task:=
 Task.at_ 198 0 (fw 14639) (JB bx (ws x) by_ (ws y) (V.m 0 0 n) br (ws r) i) [] [Ob.cells (cellsOf qs) []]
set_option exponentiation.threshold 400000 in
theorem mC{r:Nat}(h:r<2^300000):Fits r:=by unfold Fits;rw[nu];exact Nat.lt_of_lt_of_le h (Nat.pow_le_pow_right (by decide) (by decide))
theorem Cq:Fits 1:=sA (n:=0) (by decide)
theorem Nw(bx by_ br:Bool)(x y n r i:Nat)(fl:List (Nat×Nat))(hfl:fl=[(5,1)]\/fl=[])(qs:List Int)(hx:Fits x)(hi:i<32*(aQ x).length)(hr:Fits r)(hr2:Fits (r*2)):
  rk prog aF (dT bx by_ x y n br r (i:Int) fl qs)=rk prog aF (dM bx by_ x y n (nb (r*2+x / 2^i%2)) (r*2+x / 2^i%2) (i:Int) qs):=by
 have lx:=hx.len;have s1:=uE br r 1 hr (by decide);rw[Nat.pow_one]at s1;have hc:rk prog aF (.call 161 [vl br (ws r),vi 1] [])=some (.d (.l (nb (r*2)) (ws (r*2))),[]):=s1;have hof:rk prog aF (.call 160 [vu 1] [])=some (.d (.l (nb 1) (ws 1)),[]):=Bc 1 (by decide);have hadd:=GN (nb (r*2)) (nb 1) (r*2) 1 hr2 Cq;have hq:i / 32<(aQ x).length:=by omega
 have hg:(ws x)[i / 32]?=some (D.i .u32 ((x / W^(i / 32)%W:Nat):Int)):=by rw[ws,eJ,AY x _ hq];rfl
 have ha:x / W^(i / 32)%W<4294967296:=Nat.mod_lt _ iw;have hbw:=DI x i;generalize x / W^(i / 32)%W=a at hg ha hbw;have ht1:(i:Int).tdiv 32=((i / 32:Nat):Int):=fG i 32;have ht2:(i:Int).tmod 32=((i%32:Nat):Int):=kr i 32;have hw:i64.wrap ((i / 32:Nat):Int)=((i / 32:Nat):Int):=U5;have hmin:min (i%32) 32=i%32:=by omega
 have hp:(0:Int)<=((i%32:Nat):Int):=by omega
 have hi0:(i:Int) ≥ 0:=by omega
 have hbit:u32.wrap (((BitVec.ofInt u32.bits ((a:Int).fdiv (2^(i%32))) &&& BitVec.ofInt u32.bits 1).toNat:Nat):Int)=((x / 2^i%2:Nat):Int):=by
  have e:(2:Int)^(i%32)=((2^(i%32):Nat):Int):=by simp
  have h32:a / 2^(i%32)<4294967296:=Nat.lt_of_le_of_lt (Nat.div_le_self _ _) ha;have:=and_one h32;rw[e,kg];have h2:(BitVec.ofInt u32.bits ((a / 2^(i%32):Nat):Int) &&& BitVec.ofInt u32.bits 1).toNat=a / 2^(i%32)%2:=this;rw[h2,hbw,dj];omega
 rcases hfl with rfl|rfl
 all_goals
  unfold dT
  first|rw[AH] | rw[vt]
  simp only[aO,decide_eq_true hi0,if_true,aY,hc,Option.bind_some,List.isEmpty_nil,aP,bM,eH,ht1,ht2,hw,bQ,hg,ca,kJ,beq_self_eq_true,Int.toNat_natCast,kB,List.getElem?_cons_zero,bH,decide_eq_true hp,hmin,hbit];rcases Nat.mod_two_eq_zero_or_one (x / 2^i)with h|h
  ·rw[h];have h0:((((0:Nat):Int) != 0)=true)=False:=by simp
   simp only[h0,if_false,aD,Nat.add_zero];unfold dM;generalize rk prog aF (.at_ 198 0 (fw 14639) _ _ _)=R;cases R<;>rfl
  ·rw[h];have h0:((((1:Nat):Int) != 0)=true)=True:=by simp
   simp only[h0,if_true,hof,hadd,Option.bind_some,List.isEmpty_nil,bM,eH,aP,aA,aY,aD];unfold dM;generalize rk prog aF (.at_ 198 0 (fw 14639) _ _ _)=R;cases R<;>rfl
theorem Vn{z k:Nat}(hz:z<4294967296)(hk:k<32)(hd:z%2^(k+1)=0):u32.wrap (((BitVec.ofInt u32.bits (z:Int) ||| BitVec.ofInt u32.bits (u32.wrap (1*2^k))).toNat:Nat):Int)=((z+2^k:Nat):Int)/\z+2^k<4294967296:=by
 have h2:2^k<=2147483648:=Nat.le_trans (Nat.pow_le_pow_right (by decide) (show k<=31 by omega)) (by decide);obtain⟨t,ht⟩:=Nat.dvd_of_mod_eq_zero hd;have hlt:z+2^k<4294967296:=by
  have hW:4294967296=2^(k+1)*2^(31-k):=by rw[<-Nat.pow_add,show k+1+(31-k)=32 by omega]
  have h3:t<2^(31-k):=by rw[ht,hW]at hz;exact Nat.lt_of_mul_lt_mul_left hz
  have h4:2^(k+1)*(t+1)<=4294967296:=by rw[hW];exact Nat.mul_le_mul_left _ h3
  have h5:2^(k+1)=2*2^k:=by rw[Nat.pow_succ,Nat.mul_comm]
  have h6:=Nat.pow_pos (n:=k) (show 0<2 by decide);rw[Nat.mul_add,Nat.mul_one,<-ht]at h4;omega
 refine⟨?_,hlt⟩;have e:(1:Int)*2^k=((2^k:Nat):Int):=by simp
 rw[e,dj (((2^k:Nat)):Int),nP (by omega)];have h3:(BitVec.ofInt u32.bits (z:Int) ||| BitVec.ofInt u32.bits ((2^k:Nat):Int)).toNat=z ||| 2^k:=by show (BitVec.ofInt 32 (z:Int) ||| BitVec.ofInt 32 ((2^k:Nat):Int)).toNat=_;rw[BitVec.toNat_or,BitVec.ofInt_natCast,BitVec.ofInt_natCast,BitVec.toNat_ofNat,BitVec.toNat_ofNat,Nat.mod_eq_of_lt (by simpa using hz),Nat.mod_eq_of_lt (by omega)]
 have h4:z ||| 2^k=z+2^k:=by rw[ht,<-Nat.two_pow_add_eq_or_of_lt (Nat.pow_lt_pow_right (by decide) (Nat.lt_succ_self k))]
 rw[h3,h4,dj];omega
theorem Dq{qs:List Int}(hu:dR qs){q:Nat}(hq:q<qs.length):qs[q]=((aV qs / W^q%W:Nat):Int):=by
 induction qs generalizing q with
 |nil=>simp at hq
 |cons z qs ih=>
  obtain⟨hz,hu'⟩:=dR.cons.1 hu;have hzW:z.toNat<W:=by unfold W;omega
  cases q with
  |zero=>simp only[List.getElem_cons_zero,aV,Nat.pow_zero,Nat.div_one,Nat.add_mul_mod_self_left,Nat.mod_eq_of_lt hzW];omega
  |succ q=>
   simp only[List.getElem_cons_succ,aV];rw[ih hu' (by simpa using hq),Nat.pow_succ,Nat.mul_comm (W^q),<-Nat.div_div_eq_div_mul,Nat.add_mul_div_left _ _ iw,Nat.div_eq_of_lt hzW,Nat.zero_add]
theorem E1{Q q k m:Nat}(hk:k<32)(h:Q=2^(32*q+k+1)*m):Q / W^q%W%2^(k+1)=0:=by rw[Nat.mod_mod_of_dvd _ ⟨2^(31-k),by rw[<-Nat.pow_add,show k+1+(31-k)=32 by omega];rfl⟩,h,nu,show 32*q+k+1=32*q+(k+1)from rfl,Nat.pow_add,Nat.mul_assoc,Nat.mul_div_cancel_left _ (Nat.pow_pos (by decide)),Nat.mul_mod_right]
theorem QA(bx by_ br:Bool)(x y n r i:Nat)(qs:List Int)(hr:Fits r)(hy:Fits y)(hn:n=qs.length)(hi:i<32*n)(hn2:n<=10000)(hu:dR qs)(m:Nat)(hv:aV qs=2^(i+1)*m):
  (r<y->rk prog aF (dM bx by_ x y n br r (i:Int) qs)=rk prog aF (dT bx by_ x y n br r ((i:Int)-1) [] qs))/\
  (y<=r->∃qs',dR qs'/\qs'.length=n/\aV qs'=2^i*(2*m+1)/\rk prog aF (dM bx by_ x y n br r (i:Int) qs)=rk prog aF (dT bx by_ x y n (nb (r-y)) (r-y) ((i:Int)-1) [] qs')):=by
 have hs:=Ue br by_ r y hr hy;have hw1:i64.wrap ((i:Int)-1)=(i:Int)-1:=U5;constructor
 ·intro h;unfold dM dT;rw[vr];rw[Mx,if_pos h]at hs;simp[hs,hw1]
 ·intro h;have hq:i / 32<qs.length:=by omega
  have hk:i%32<32:=Nat.mod_lt _ (by decide);have hwd:=Dq hu hq;have hz:aV qs / W^(i / 32)%W<4294967296:=Nat.mod_lt _ iw;have hlow:aV qs / W^(i / 32)%W%2^(i%32+1)=0:=E1 (q:=i / 32) (m:=m) hk (by rw[Nat.div_add_mod];exact hv);have hval:=lZ qs (i / 32) ((aV qs / W^(i / 32)%W+2^(i%32):Nat):Int) hq;rw[hwd,Int.toNat_natCast,Int.toNat_natCast,Nat.mul_add,Dz (i / 32) (i%32),Nat.div_add_mod]at hval;have hg:qs[i / 32]?=some ((aV qs / W^(i / 32)%W:Nat):Int):=by rw[List.getElem?_eq_getElem hq,hwd]
  generalize aV qs / W^(i / 32)%W=z at *;obtain⟨hor,hlt⟩:=Vn hz hk hlow;refine⟨qs.set (i / 32) ((z+2^(i%32):Nat):Int),hu.set _ hlt,by simp[hn],?_,?_⟩
  ·have:2^(i+1)=2*2^i:=by rw[Nat.pow_succ,Nat.mul_comm]
   have e:2^i*(2*m+1)=2^(i+1)*m+2^i:=by rw[this,Nat.mul_add,Nat.mul_one,<-Nat.mul_assoc,Nat.mul_comm (2^i) 2]
   rw[e];omega
  ·unfold dM dT;rw[vr];rw[Mx,UM,mJ]at hs;have ht1:(i:Int).tdiv 32=((i / 32:Nat):Int):=fG i 32;have ht2:(i:Int).tmod 32=((i%32:Nat):Int):=kr i 32;have hw:i64.wrap ((i / 32:Nat):Int)=((i / 32:Nat):Int):=U5;have hmin:min (i%32) 32=i%32:=by omega
   have hp:(0:Int)<=((i%32:Nat):Int):=by omega
   have hb1:(0:Int)<=((i / 32:Nat):Int)/\((i / 32:Nat):Int)<(n:Int):=by omega
   have hb2:i / 32<(cellsOf qs).length:=by rw[eP];exact hq
   simp only[aY,hs,Option.bind_some,List.isEmpty_nil,aP,if_true,qI,List.length_cons,List.length_nil,Nat.zero_add,Nat.reduceAdd,beq_self_eq_true,List.getD_cons_zero,List.getD_cons_succ,bM,eH,oJ,aO,ht1,ht2,hw,decide_eq_true hb1,Int.toNat_natCast,dq,hg,Option.map_some,ca,bH,decide_eq_true hp,decide_eq_true hb2,Bool.and_true,hmin,hor,hw1,ij,aD];generalize rk prog aF (.at_ 198 0 (fw 175) _ _ _)=R;cases R<;>rfl
theorem Nx(bx by_:Bool)(x y:Nat)(hx:Fits x)(hy:Fits (y*2))(hy0:0<y):∀(i:Nat) (br:Bool) (fl:List (Nat×Nat)) (r:Nat) (qs:List Int),(fl=[(5,1)]\/fl=[])->i<=32*(aQ x).length->r=x / 2^i%y->aV qs=2^i*(x / 2^i / y)->dR qs->qs.length=(aQ x).length->
  rk prog aF (dT bx by_ x y (aQ x).length br r ((i:Int)-1) fl qs)=some (.t [.d (.l (nb (x / y)) (ws (x / y))),.d (.l (nb (x%y)) (ws (x%y))),.d (.b true)],[]):=by
 have lx:=hx.len;intro i
 induction i with
 |zero=>
  intro br fl r qs hfl hi hr hv hu hl;rw[Nat.pow_zero,Nat.div_one]at hr;rw[Nat.pow_zero,Nat.div_one,Nat.one_mul]at hv;have hcm:=DV qs hu (by omega);rw[hl,hv,mJ]at hcm;have hc:=qS br r (by rw[hr];exact hx.le (Nat.mod_le _ _));rw[hr]at hc;have h1:¬((((0:Nat):Int)-1) ≥ 0):=by omega
  unfold dT;rw[hr];rcases hfl with rfl|rfl
  ·rw[AH];simp only[aO,decide_eq_false h1,Bool.false_eq_true,if_false,aY,hcm,Option.bind_some,jJ,iv,beq_self_eq_true,aP,if_true,kI,bM,eH,hc,List.isEmpty_nil,aD]
  ·rw[vt];simp only[aO,decide_eq_false h1,Bool.false_eq_true,if_false,aY,hcm,Option.bind_some,jJ,iv,beq_self_eq_true,aP,if_true,kI,bM,eH,hc,List.isEmpty_nil,aD]
 |succ i ih=>
  intro br fl r qs hfl hi hr hv hu hl;have hry:r<y:=by rw[hr];exact Nat.mod_lt _ hy0
  have e:(((i+1:Nat):Int)-1)=(i:Int):=by omega
  have fr:Fits (r*2):=hy.le (Nat.mul_le_mul_right _ (by omega));have hb:=Nat.mod_two_eq_zero_or_one (x / 2^i);have fr1:Fits (r*2+x / 2^i%2):=hy.le (by omega);have hX:x / 2^i=2*(x / 2^(i+1))+x / 2^i%2:=by rw[Nat.pow_succ,<-Nat.div_div_eq_div_mul];have:=Nat.div_add_mod (x / 2^i) 2;omega
  have hdm:=Nat.div_add_mod (x / 2^(i+1)) y;rw[<-hr]at hdm;have hXY:x / 2^i=y*(2*(x / 2^(i+1) / y))+(r*2+x / 2^i%2):=by
   have:y*(2*(x / 2^(i+1) / y))=2*(y*(x / 2^(i+1) / y)):=by rw[Nat.mul_left_comm]
   omega
  rw[e,Nw bx by_ br x y _ r i fl hfl qs hx (by omega) (hr▸fr.le (by omega)) fr];have hm:=QA bx by_ (nb (r*2+x / 2^i%2)) x y (aQ x).length (r*2+x / 2^i%2) i qs fr1 (hy.le (by omega)) hl.symm (by omega) lx hu (x / 2^(i+1) / y) hv;by_cases hlt:r*2+x / 2^i%2<y
  ·rw[hm.1 hlt];have hq:x / 2^i / y=2*(x / 2^(i+1) / y):=by
    conv=>lhs;rw[hXY]
    rw[Nat.mul_add_div hy0,Nat.div_eq_of_lt hlt,Nat.add_zero]
   have hrr:x / 2^i%y=r*2+x / 2^i%2:=by
    conv=>lhs;rw[hXY]
    rw[Nat.mul_add_mod,Nat.mod_eq_of_lt hlt]
   refine ih _ [] _ qs (Or.inr rfl) (by omega) hrr.symm ?_ hu hl;rw[hv,hq,Nat.pow_succ,Nat.mul_assoc]
  ·obtain⟨qs',u1,u2,u3,u4⟩:=hm.2 (by omega)
   rw[u4];have hq:x / 2^i / y=2*(x / 2^(i+1) / y)+1:=by
    conv=>lhs;rw[hXY]
    have hd1:(r*2+x / 2^i%2) / y=1:=Nat.div_eq_of_lt_le (by omega) (by omega);rw[Nat.mul_add_div hy0,hd1]
   have hrr:x / 2^i%y=r*2+x / 2^i%2-y:=by
    conv=>lhs;rw[hXY]
    rw[Nat.mul_add_mod,Nat.mod_eq_sub_mod (by omega),Nat.mod_eq_of_lt (by omega)]
   refine ih _ [] _ qs' (Or.inr rfl) (by omega) hrr.symm ?_ u1 u2;rw[u3,hq]
theorem Ta(b c:Bool)(x y:Nat)(hx:Fits x)(hy:Fits (y*2))(hy0:0<y):rk prog aF (.call 198 [vl b (ws x),vl c (ws y)] [])=some (.t [.d (.l (nb (x / y)) (ws (x / y))),.d (.l (nb (x%y)) (ws (x%y))),.d (.b true)],[]):=by
 rw[f74];have lx:=hx.len;have fy:Fits y:=hy.le (by omega);have c1:=qS b x hx;have c2:=qS c y fy;have cb:=pR (nb x) x hx;have hyl:(aQ y).length≠0:=λ e=>by
  have:=(fJ y).1 (List.length_eq_zero_iff.1 e);omega
 have h4:((((aQ y).length:Nat):Int)==0)=false:=beq_eq_false_iff_ne.2 (by omega);have hbl:bE x<=32*(aQ x).length:=(cW _ _).2 (by rw[<-nu];exact gm x);have hw:i64.wrap (((bE x:Nat):Int)-1)=((bE x:Nat):Int)-1:=U5;have hle:(((aQ x).length:Nat):Int)<=4294967296:=by omega
 have hx0:x / 2^bE x=0:=Nat.div_eq_of_lt (nO x);have h:=Nx (nb x) (nb y) x y hx hy hy0 (bE x) true [(5,1)] 0 (List.replicate (aQ x).length 0) (Or.inl rfl) hbl (by rw[hx0,Nat.zero_mod]) (by rw[hx0,Nat.zero_div,Nat.mul_zero,gL]) (λ z hz=>by rw[List.mem_replicate]at hz;omega) (by simp);unfold dT at h;rw[<-gE,tG]at h;simp only[aY,c1,c2,Option.bind_some,List.isEmpty_nil,aP,if_true,bM,eH,dP,aO,h4,Bool.false_eq_true,if_false,decide_true,decide_eq_true hle,cb,bH,hw,Int.toNat_natCast,aD,h]
def Wm(k:Nat)(p:List Bool):Option (List Nat):=
 if k=207 then [(207,[0,1,2,8,9,25]),(52687,[0,2,8,9,40]),(249295,[0,2,8,9,52]),(1035727,[0,2,8,9,64]),(991,[0,1,2,8,9,83]),(127,[0,1,2,8,9]),(511,[0,1,2,8,9,10]),
  (22527,[1,8,9,10,11,12,13,99,100,101]),(26843135,[1,8,9,10,11,12,13,15,99,100,101,106]),(127506431,[1,8,9,10,11,12,13,15,99,100,101,112]),
  (530159615,[1,8,9,10,11,12,13,15,99,100,101,121]),(469342207,[1,8,9,10,11,12,17,99,100,101,159]),(28671,[13,169])].lookup (p.foldl (λ n b=>2*n+b.toNat) 1)else none
def jz:Pol:={ cut:=Wm,app:=λ k _ _=>if k=207 then 0 else 2,mh:=λ _ _ _=>[],ext:=λ _=>none }
theorem Xl(s:mP):EQ jz (.call 207 [vs s,vi 16,vi 64] []) (aM (s==[]) .fail (.call (.at_ 207 0 (fw 207) (sv 172 [(0,vs s),(1,vi 16),(2,vi 64),(8,vb false),(9,vs s),(25,vb true)]) [] []) .ret)):=bU
theorem Xr(c:Int):EQ jz (.call 223 [.d (.i .u8 c)] []) (.ret (.d (.i .u8 (u8.wrap ((BitVec.ofInt u8.bits c ||| BitVec.ofInt u8.bits 32).toNat:Int))),[])):=bU
theorem IQ(l0:mP)(n1 n2:Int)(b3:Bool)(l4:mP)(b5:Bool):EQ jz (.at_ 207 0 (fw 207) (sv 172 [(0,vs l0),(1,vi n1),(2,vi n2),(8,vb b3),(9,vs l4),(25,vb b5)]) [] []) (aM b5 (aM (n2==0) (.call (.at_ 207 0 (fw 127) (RT l0 n1 64 b3 l4) [] []) .ret) (aM (decide (n2<0)) (.call (.at_ 207 0 (fw 991) (Lh l0 n1 n2 b3 l4 true) [] []) .ret) (.call (.at_ 207 0 (fw 991) (Lh l0 n1 n2 b3 l4 (decide (n2>64))) [] []) .ret))) (aM (n1==0) (ob (bJ l0 0) λ a=>aM ((a.toNat:Int)==48) (aM (decide ((l0.length:Int) ≥ 3)) (ob (bJ l0 1) λ c=>cV (.call 223 [.d (.i .u8 (c.toNat:Int))] []) λ e=>bm e λ f=>bR .u8 f λ g => .call (.at_ 207 0 (fw 52687) (sv 172 [(0,vs l0),(2,vi n2),(8,vb b3),(9,vs l4),(40,vb (g==98))]) [] []) .ret) (.call (.at_ 207 0 (fw 52687) (sv 172 [(0,vs l0),(2,vi n2),(8,vb b3),(9,vs l4),(40,vb false)]) [] []) .ret)) (aM (n2==0) (.call (.at_ 207 0 (fw 127) (RT l0 10 64 b3 l4) [] []) .ret) (aM (decide (n2<0)) (.call (.at_ 207 0 (fw 991) (Lh l0 10 n2 b3 l4 true) [] []) .ret) (.call (.at_ 207 0 (fw 991) (Lh l0 10 n2 b3 l4 (decide (n2>64))) [] []) .ret)))) .fail)):=bU
theorem IP(l0:mP)(n1 n2:Int)(b3:Bool)(l4:mP):EQ jz (.at_ 207 0 (fw 127) (RT l0 n1 n2 b3 l4) [] []) (aM (n1==10) (.call (.at_ 207 0 (fw 511) (Qk l0 n1 n2 b3 l4 1844674407370955162) [] []) .ret) (aM (n1==16) (.call (.at_ 207 0 (fw 511) (Qk l0 n1 n2 b3 l4 1152921504606846976) [] []) .ret) (aH (decide (u64.wrap n1≠0)) (.call (.at_ 207 0 (fw 511) (Qk l0 n1 n2 b3 l4 (u64.wrap (u64.wrap (Int.tdiv 18446744073709551615 (u64.wrap n1))+1))) [] []) .ret)))):=bU
theorem IT(l0:mP)(n1 n2:Int)(b3:Bool)(l4:mP)(b5:Bool):EQ jz (.at_ 207 0 (fw 991) (Lh l0 n1 n2 b3 l4 b5) [] []) (aM b5 .fail (.call (.at_ 207 0 (fw 127) (RT l0 n1 n2 b3 l4) [] []) .ret)):=bU
theorem IS(l0:mP)(n1 n2:Int)(b3:Bool)(l4:mP)(n5:Int):EQ jz (.at_ 207 0 (fw 511) (Qk l0 n1 n2 b3 l4 n5) [] []) (aH (decide (0<=u64.wrap n2)) (aH (decide (l0.length<=4294967296)&&true) (.call (.at_ 207 0 (fw 22527) (NK n1 b3 l4 n5 (u64.wrap (u64.wrap (1*2^min (u64.wrap n2).toNat 64)-1)) false 0 false (ofBytes l0) ((ofBytes l0).length:Int) 0) [] []) .ret))):=bU
theorem tz(n0:Int)(b1:Bool)(l2:mP)(n3 n4:Int)(b5:Bool)(n6:Int)(b7:Bool)(l8:List D)(n9 n10:Int):EQ jz (.at_ 207 0 (fw 22527) (NK n0 b1 l2 n3 n4 b5 n6 b7 l8 n9 n10) [] []) (aM (decide (n10<n9)) (eC l8 n10 1 0 λ a=>bR .u8 a λ c=>aM (c==95) (.call (.at_ 207 0 (fw 26843135) (R7 n0 b1 l2 n3 n4 b5 n6 (.d (.i .u8 c)) b7 l8 n9 n10 b1) [] []) .ret) (.call (.at_ 207 0 (fw 26843135) (R7 n0 b1 l2 n3 n4 b5 n6 (.d (.i .u8 c)) b7 l8 n9 n10 false) [] []) .ret)) (aM b5 (cV (.call 224 [vs l2] []) λ e=>aB e λ f => .call (.at_ 207 0 (fw 28671) (sv 172 [(13,vu n6),(169,vb !f)]) [] []) .ret) (.call (.at_ 207 0 (fw 28671) (sv 172 [(13,vu n6),(169,vb false)]) [] []) .ret))):=bU
theorem we(n0:Int)(b1:Bool)(l2:mP)(n3 n4:Int)(b5:Bool)(n6 n7:Int)(b8:Bool)(l9:List D)(n10 n11:Int)(b12:Bool):EQ jz (.at_ 207 0 (fw 26843135) (R7 n0 b1 l2 n3 n4 b5 n6 (.d (.i .u8 n7)) b8 l9 n10 n11 b12) [] []) (aM b12 (.call (.at_ 207 0 (fw 22527) (NK n0 b1 l2 n3 n4 true n6 b8 l9 n10 (i64.wrap (n11+1))) [] []) .ret) (aM (decide (48<=n7)) (.call (.at_ 207 0 (fw 127506431) (Sc n0 b1 l2 n3 n4 b5 n6 (.d (.i .u8 n7)) b8 l9 n10 n11 (decide (n7<=57))) [] []) .ret) (.call (.at_ 207 0 (fw 127506431) (Sc n0 b1 l2 n3 n4 b5 n6 (.d (.i .u8 n7)) b8 l9 n10 n11 false) [] []) .ret))):=bU
theorem Dh(n0:Int)(b1:Bool):EQ jz (.at_ 207 0 (fw 28671) (sv 172 [(13,vu n0),(169,vb b1)]) [] []) (aM b1 .fail (.ret (.t [vu n0,V.nifc],[]))):=bU
theorem mZ(n0:Int)(b1:Bool)(l2:mP)(n3 n4:Int)(b5:Bool)(n6 n7:Int)(b8:Bool)(l9:List D)(n10 n11:Int)(b12:Bool):EQ jz (.at_ 207 0 (fw 127506431) (Sc n0 b1 l2 n3 n4 b5 n6 (.d (.i .u8 n7)) b8 l9 n10 n11 b12) [] []) (aM b12 (aM (decide (u8.wrap (n7-48) ≥ u8.wrap n0)) .fail (aM (decide (n6 ≥ n3)) .fail (aM (decide (u64.wrap (u64.wrap (n6*u64.wrap n0)+u64.wrap (u8.wrap (n7-48)))<u64.wrap (n6*u64.wrap n0))) (.call (.at_ 207 0 (fw 469342207) (T7 n0 b1 l2 n3 n4 b5 (u64.wrap (u64.wrap (n6*u64.wrap n0)+u64.wrap (u8.wrap (n7-48)))) b8 l9 n10 n11 true) [] []) .ret) (.call (.at_ 207 0 (fw 469342207) (T7 n0 b1 l2 n3 n4 b5 (u64.wrap (u64.wrap (n6*u64.wrap n0)+u64.wrap (u8.wrap (n7-48)))) b8 l9 n10 n11 (decide (u64.wrap (u64.wrap (n6*u64.wrap n0)+u64.wrap (u8.wrap (n7-48)))>n4))) [] []) .ret)))) (cV (.call 223 [.d (.i .u8 n7)] []) λ a=>bm a λ c=>bR .u8 c λ e=>aM (decide (97<=e)) (cV (.call 223 [.d (.i .u8 n7)] []) λ f=>bm f λ g=>bR .u8 g λ h => .call (.at_ 207 0 (fw 530159615) (Sl n0 b1 l2 n3 n4 b5 n6 (.d (.i .u8 n7)) b8 l9 n10 n11 (decide (h<=122))) [] []) .ret) (.call (.at_ 207 0 (fw 530159615) (Sl n0 b1 l2 n3 n4 b5 n6 (.d (.i .u8 n7)) b8 l9 n10 n11 false) [] []) .ret))):=bU
theorem na(n0:Int)(b1:Bool)(l2:mP)(n3 n4:Int)(b5:Bool)(n6:Int)(b7:Bool)(l8:List D)(n9 n10:Int)(b11:Bool):EQ jz (.at_ 207 0 (fw 469342207) (T7 n0 b1 l2 n3 n4 b5 n6 b7 l8 n9 n10 b11) [] []) (aM b11 .fail (.call (.at_ 207 0 (fw 22527) (NK n0 b1 l2 n3 n4 b5 n6 b7 l8 n9 (i64.wrap (n10+1))) [] []) .ret)):=bU
theorem uP(n0:Int)(b1:Bool)(l2:mP)(n3 n4:Int)(b5:Bool)(n6 n7:Int)(b8:Bool)(l9:List D)(n10 n11:Int)(b12:Bool):EQ jz (.at_ 207 0 (fw 530159615) (Sl n0 b1 l2 n3 n4 b5 n6 (.d (.i .u8 n7)) b8 l9 n10 n11 b12) [] []) (aM b12 (cV (.call 223 [.d (.i .u8 n7)] []) λ a=>bm a λ c=>bR .u8 c λ e=>aM (decide (u8.wrap (u8.wrap (e-97)+10) ≥ u8.wrap n0)) .fail (aM (decide (n6 ≥ n3)) .fail (aM (decide (u64.wrap (u64.wrap (n6*u64.wrap n0)+u64.wrap (u8.wrap (u8.wrap (e-97)+10)))<u64.wrap (n6*u64.wrap n0))) (.call (.at_ 207 0 (fw 469342207) (T7 n0 b1 l2 n3 n4 b5 (u64.wrap (u64.wrap (n6*u64.wrap n0)+u64.wrap (u8.wrap (u8.wrap (e-97)+10)))) b8 l9 n10 n11 true) [] []) .ret) (.call (.at_ 207 0 (fw 469342207) (T7 n0 b1 l2 n3 n4 b5 (u64.wrap (u64.wrap (n6*u64.wrap n0)+u64.wrap (u8.wrap (u8.wrap (e-97)+10)))) b8 l9 n10 n11 (decide (u64.wrap (u64.wrap (n6*u64.wrap n0)+u64.wrap (u8.wrap (u8.wrap (e-97)+10)))>n4))) [] []) .ret)))) .fail):=bU
theorem f54(b:Bool)(xs:List D)(c:Bool)(ys:List D):EQ aF (.call 169 [vl b xs,vl c ys] []) (cV (.call 198 [vl b xs,vl c ys] []) λ a=>cL a λ e=>aH (e.length==3) (bm (Ul e 0) λ f=>fT f λ g h=>bm (Ul e 1) λ j=>fT j λ k m=>bm (Ul e 2) λ n=>fN n λ o=>cV (.call 161 [vl k m,vi 1] []) λ p=>aL p λ q r=>cV (.call 164 [vl q r,vl c ys] []) λ s=>aI s λ t=>aM (decide (t>0)) (.call (.at_ 169 0 (fw 55) (xB g h true) [] []) .ret) (aM (t==0) (cV (.call 168 [vl g h] []) λ zu=>aU zu λ v => .call (.at_ 169 0 (fw 55) (xB g h (u64.wrap ((BitVec.ofInt u64.bits v &&& BitVec.ofInt u64.bits 1).toNat:Int)==1)) [] []) .ret) (.call (.at_ 169 0 (fw 55) (xB g h false) [] []) .ret)))):=bU
theorem f33(q:Int):EQ aF (.call 112 [vu q] []) (aM (decide (i64.wrap (u64.wrap ((BitVec.ofInt u64.bits (q.fdiv 4503599627370496) &&& BitVec.ofInt u64.bits 2047).toNat:Int))>0)) (.call (.at_ 112 0 (fw 15) (HE (u64.wrap ((BitVec.ofInt u64.bits (u64.wrap ((BitVec.ofInt u64.bits q &&& BitVec.ofInt u64.bits 4503599627370495).toNat:Int)) ||| BitVec.ofInt u64.bits 4503599627370496).toNat:Int)) (i64.wrap (-1074+i64.wrap (i64.wrap (u64.wrap ((BitVec.ofInt u64.bits (q.fdiv 4503599627370496) &&& BitVec.ofInt u64.bits 2047).toNat:Int))-1)))) [] []) .ret) (.call (.at_ 112 0 (fw 15) (HE (u64.wrap ((BitVec.ofInt u64.bits q &&& BitVec.ofInt u64.bits 4503599627370495).toNat:Int)) (-1074)) [] []) .ret)):=bU
theorem f35(b:Bool)(xs:List D)(c:Bool)(ys:List D)(n:Int):EQ aF (.call 114 [vl b xs,vl c ys,vi n] []) (aM (decide (n<0)) (cV (.call 166 [vi (i64.wrap (0-n))] []) λ a=>aL a λ e f=>cV (.call 165 [vl b xs,vl e f] []) λ g=>aL g λ h j=>cV (.call 164 [vl h j,vl c ys] []) λ k=>aI k λ m => .ret (vb (decide (m<0)),[])) (cV (.call 166 [vi n] []) λ o=>aL o λ p q=>cV (.call 165 [vl c ys,vl p q] []) λ r=>aL r λ s t=>cV (.call 164 [vl b xs,vl s t] []) λ zu=>aI zu λ v => .ret (vb (decide (v<0)),[]))):=bU
theorem f37(b:Bool)(xs:List D)(c:Bool)(ys:List D)(n:Int):EQ aF (.call 116 [vl b xs,vl c ys,vi n] []) (aM (decide (n<0)) (cV (.call 166 [vi (i64.wrap (0-n))] []) λ a=>aL a λ e f=>cV (.call 165 [vl b xs,vl e f] []) λ g=>aL g λ h j=>cV (.call 169 [vl h j,vl c ys] []) λ k=>aL k λ m o => .ret (vl m o,[])) (cV (.call 166 [vi n] []) λ p=>aL p λ q r=>cV (.call 165 [vl c ys,vl q r] []) λ s=>aL s λ t zu=>cV (.call 169 [vl b xs,vl t zu] []) λ v=>aL v λ w x => .ret (vl w x,[]))):=bU
theorem f36(b:Bool)(xs:List D):EQ aF (.call 115 [vl b xs] []) (cV (.call 168 [vl b xs] []) λ a=>aU a λ c=>cV (.call 167 [vu c,vi 10] []) λ e=>aS e λ f => .ret (vs f,[])):=bU
theorem f15(q:Int):EQ aF (.call 50 [vu q] []) (aM (u64.wrap ((BitVec.ofInt u64.bits (q.fdiv 4503599627370496) &&& BitVec.ofInt u64.bits 2047).toNat:Int)==2047) (.ret (vs [],[])) (aM (u64.wrap ((BitVec.ofInt u64.bits q &&& BitVec.ofInt u64.bits 9223372036854775808).toNat:Int) != 0) (.call (.at_ 50 0 (fw 31) (sv 76 [(0,vu (u64.wrap ((BitVec.ofInt u64.bits q &&& ~~~BitVec.ofInt u64.bits 9223372036854775808).toNat:Int))),(3,vs [45])]) [] []) .ret) (.call (.at_ 50 0 (fw 31) (sv 76 [(0,vu q),(3,vs [])]) [] []) .ret))):=bU
theorem NP(b0:Bool)(l1:List D)(b2:Bool):EQ aF (.at_ 169 0 (fw 55) (xB b0 l1 b2) [] []) (aM b2 (cV (.call 160 [vu 1] []) λ o0=>aL o0 λ b2 l3=>cV (.call 199 [vl b0 l1,vl b2 l3] []) λ o4=>aL o4 λ b6 l7 => .ret (vl b6 l7,[])) (.ret (vl b0 l1,[]))):=bU
theorem NM(n0 n1:Int):EQ aF (.at_ 112 0 (fw 15) (HE n0 n1) [] []) (aM (decide (n1<0)) (cV (.call 160 [vu n0] []) λ a=>aL a λ b c=>cV (.call 160 [vu 1] []) λ e=>aL e λ f g=>cV (.call 161 [vl f g,vi (i64.wrap (0-n1))] []) λ h=>aL h λ j k => .ret (.t [vl b c,vl j k],[])) (cV (.call 160 [vu n0] []) λ m=>aL m λ n o=>cV (.call 161 [vl n o,vi n1] []) λ p=>aL p λ q r=>cV (.call 160 [vu 1] []) λ s=>aL s λ zu v => .ret (.t [vl q r,vl zu v],[]))):=bU
theorem NH(n0:Int)(l1:mP):EQ aF (.at_ 50 0 (fw 31) (sv 76 [(0,vu n0),(3,vs l1)]) [] []) (aM (n0==0) (aH (decide (l1.length+5<4611686018427387904)) (.ret (vs (l1++[48,46,48,101,48]),[]))) (cV (.call 112 [vu n0] []) λ a=>cL a λ c=>aH (c.length==2) (bm (Ul c 0) λ e=>fT e λ f g=>bm (Ul c 1) λ h=>fT h λ j k=>cV (.call 113 [vl f g] []) λ m=>aI m λ n=>cV (.call 113 [vl j k] []) λ o=>aI o λ p => .call (.at_ 50 0 (fw 639) (uR l1 f g j k (i64.wrap (i64.wrap ((i64.wrap (i64.wrap (n-p)*30103)).tdiv 100000)+1))) [] []) .ret))):=bU
theorem Ay(l0:mP)(b1:Bool)(l2:List D)(b3:Bool)(l4:List D)(n5:Int):EQ aF (.at_ 50 0 (fw 639) (uR l0 b1 l2 b3 l4 n5) [] []) (cV (.call 114 [vl b1 l2,vl b3 l4,vi n5] []) λ a=>aB a λ b=>aM b (.call (.at_ 50 0 (fw 639) (uR l0 b1 l2 b3 l4 (i64.wrap (n5-1))) [] []) .ret) (cV (.call 116 [vl b1 l2,vl b3 l4,vi (i64.wrap (i64.wrap (n5-17)+1))] []) λ c=>aL c λ e f=>cV (.call 115 [vl e f] []) λ g=>aS g λ h=>aM (decide ((h.length:Int)>17)) (cV (.call 116 [vl b1 l2,vl b3 l4,vi (i64.wrap (i64.wrap (i64.wrap (n5+1)-17)+1))] []) λ j=>aL j λ k m=>cV (.call 115 [vl k m] []) λ n=>aS n λ o => .call (.at_ 50 0 (fw 2047) (sv 76 [(3,vs l0),(6,vi (i64.wrap (n5+1))),(7,vs o)]) [] []) .ret) (.call (.at_ 50 0 (fw 2047) (sv 76 [(3,vs l0),(6,vi n5),(7,vs h)]) [] []) .ret))):=bU
theorem Hh(l0:mP)(n1:Int)(l2:mP):EQ aF (.at_ 50 0 (fw 2047) (sv 76 [(3,vs l0),(6,vi n1),(7,vs l2)]) [] []) (aH (decide ((0:Int)<=1/\1<=(l2.length:Int))) (cV (.call 117 [vs (List.take (l2.length-1) (List.drop 1 l2)),vs [48]] []) λ a=>aS a λ b=>aM (b==[]) (.call (.at_ 50 0 (fw 8191) (Fh l0 n1 l2 [48]) [] []) .ret) (.call (.at_ 50 0 (fw 8191) (Fh l0 n1 l2 b) [] []) .ret))):=bU
theorem Hi(l0:mP)(n1:Int)(l2 l3:mP):EQ aF (.at_ 50 0 (fw 8191) (Fh l0 n1 l2 l3) [] []) (aH (decide ((0:Int)<=1/\1<=(l2.length:Int))) (aH (decide (l0.length+(List.take 1 (List.drop 0 l2)).length<4611686018427387904)) (aH (decide ((l0++List.take 1 (List.drop 0 l2)).length+1<4611686018427387904)) (aH (decide ((l0++List.take 1 (List.drop 0 l2)++[46]).length+l3.length<4611686018427387904)) (aH (decide ((l0++List.take 1 (List.drop 0 l2)++[46]++l3).length+1<4611686018427387904)) (cV (.call 118 [vi n1] []) λ a=>aS a λ b=>aH (decide ((l0++List.take 1 (List.drop 0 l2)++[46]++l3++[101]).length+b.length<4611686018427387904)) (.ret (vs (l0++List.take 1 (List.drop 0 l2)++[46]++l3++[101]++b),[])))))))):=bU
set_option exponentiation.threshold 5000000
def dE(x y:Nat):Nat:=if y<2*(x%y)\/(2*(x%y)=y/\x / y%2=1)then x / y+1 else x / y
theorem xN:Fits 1:=mC (Nat.one_lt_two_pow (by decide))
theorem uz:rk prog aF (.call 160 [vu 1] [])=some (.d (.l (nb 1) (ws 1)),[]):=Bc 1 (by decide)
theorem Q2{q:Nat}:(u64.wrap (((BitVec.ofInt u64.bits ((q%18446744073709551616:Nat):Int) &&& BitVec.ofInt u64.bits 1).toNat:Nat):Int)==1)=decide (q%2=1):=by
 have e:(BitVec.ofInt u64.bits ((q%18446744073709551616:Nat):Int) &&& BitVec.ofInt u64.bits 1).toNat=q%2:=by
  show (BitVec.ofInt 64 ((q%18446744073709551616:Nat):Int) &&& BitVec.ofInt 64 1).toNat=_;rw[BitVec.toNat_and,BitVec.ofInt_natCast,BitVec.toNat_ofNat];have:(BitVec.ofInt 64 1).toNat=1:=by decide
  rw[this,Nat.and_one_is_mod];omega
 rw[e,aT,dZ (by omega)];rcases Nat.mod_two_eq_zero_or_one q with h|h<;>simp[h]
theorem CI(b c:Bool)(x y:Nat)(hx:Fits x)(hx1:Fits (x+1))(hy:Fits (y*2))(hy0:0<y):rk prog aF (.call 169 [vl b (ws x),vl c (ws y)] [])=some (.d (.l (nb (dE x y)) (ws (dE x y))),[]):=by
 rw[f54];have hdv:=Ta b c x y hx hy hy0;have hr:x%y<y:=Nat.mod_lt _ hy0;have fr:Fits (x%y):=hy.le (by omega);have hs:rk prog aF (.call 161 [vl (nb (x%y)) (ws (x%y)),vi 1] [])=some (.d (.l (nb (x%y*2^1)) (ws (x%y*2^1))),[]):=uE (nb (x%y)) (x%y) 1 fr (by decide);rw[Nat.pow_one]at hs;have hc:=GV (nb (x%y*2)) c (x%y*2) y (hy.le (by omega)) (hy.le (by omega));have hq:x / y<=x:=Nat.div_le_self _ _;have hl:=HK (nb (x / y)) (x / y) (hx.le hq);have ha:=GN (nb (x / y)) (nb 1) (x / y) 1 (hx.le hq) xN;have t1:∀bb:Bool,rk prog aF (.at_ 169 0 (fw 55) (xB (nb (x / y)) (ws (x / y)) bb) [] [])=some (.d (.l (nb (if bb=true then x / y+1 else x / y)) (ws (if bb=true then x / y+1 else x / y))),[]):=by
  intro bb;rw[NP];cases bb
  ·simp
  ·simp[uz,ha]
 simp only[aY,hdv,Option.bind_some,List.isEmpty_nil,aP,if_true,qI,List.length_cons,List.length_nil,Nat.zero_add,Nat.reduceAdd,beq_self_eq_true,List.getD_cons_zero,List.getD_cons_succ,bM,eH,oJ,hs,hc,bH,aO,aD,hl,Q2,t1];unfold dE fV;by_cases h1:x%y*2<y
 ·simp only[if_pos h1];rw[if_neg (by decide),if_neg (by decide)];have:¬(y<2*(x%y)\/(2*(x%y)=y/\x / y%2=1)):=by omega
  simp[this]
 ·by_cases h2:y<x%y*2
  ·simp only[if_neg h1,if_pos h2];have:(y<2*(x%y)\/(2*(x%y)=y/\x / y%2=1)):=by omega
   simp[this]
  ·simp only[if_neg h1,if_neg h2];have e:(y<2*(x%y)\/(2*(x%y)=y/\x / y%2=1))=(x / y%2=1):=propext (by omega);simp only[e];simp
def eW(q:Nat)(e:Int):Nat×Bool:=
 if q<2^52 then(q,true)else if 971<e then(0,false) else((e+1075).toNat*2^52+(q-2^52),true)
theorem OL{a b k:Nat}(h:b<2^k):a*2^k ||| b=a*2^k+b:=by rw[Nat.or_comm,ps h,Nat.add_comm]
def bW(x y:Nat)(e:Int):Nat:=if e<0 then dE (x*2^(-e).toNat) y else dE x (y*2^e.toNat)
def dB(x y:Nat):Int:=max ((bE x:Int)-bE y-53) (-1074)
def fe(x y:Nat):Nat×Bool:=
 if x=0 then(0,true)
 else if bE (bW x y (dB x y))<=53 then eW (bW x y (dB x y)) (dB x y)
 else if bE (bW x y (dB x y+1))<=53 then eW (bW x y (dB x y+1)) (dB x y+1)
 else eW (bW x y (dB x y+2)) (dB x y+2)
theorem yh{x y k:Nat}(hy:0<y)(h:x<=k*y):dE x y<=k:=by
 have hd:=Nat.div_add_mod x y;have hr:x%y<y:=Nat.mod_lt _ hy;have h1:x / y<=k:=Nat.div_le_of_le_mul (by rw[Nat.mul_comm];exact h);unfold dE;split
 ·rcases Nat.lt_or_ge (x / y) k with h2|h2
  ·omega
  ·have:x / y=k:=by omega
   rw[this,Nat.mul_comm]at hd;omega
 ·exact h1
theorem LW(x y:Nat)(hy:0<y)(e:Int)(k:Nat)(h:if e<0 then x*2^(-e).toNat<=k*y else x<=k*(y*2^e.toNat)):bW x y e<=k:=by
 unfold bW;split
 ·rename_i he;rw[if_pos he]at h;exact yh hy h
 ·rename_i he;rw[if_neg he]at h;exact yh (Nat.mul_pos hy (Nat.pow_pos (by decide))) h
theorem Ko(x y:Nat)(hx:x≠0)(hy:0<y):bW x y (dB x y+2)<=2^52:=by
 apply LW x y hy;have hx2:=nO x;have hy2:=pS y (by omega);have hyp:=kS (n:=y) (by omega);have hf:(bE x:Int)-bE y-53<=dB x y:=Int.le_max_left ..;generalize dB x y=e at hf;split
 ·rename_i he;have h1:x*2^(-(e+2)).toNat<=2^(bE x+(-(e+2)).toNat):=by rw[Nat.pow_add];exact Nat.mul_le_mul_right _ (Nat.le_of_lt hx2)
  have h2:2^(52+(bE y-1))<=2^52*y:=by rw[Nat.pow_add];exact Nat.mul_le_mul_left _ hy2
  exact Nat.le_trans h1 (Nat.le_trans (Nat.pow_le_pow_right (by decide) (by omega)) h2)
 ·rename_i he;have h2:2^(52+(bE y-1)+(e+2).toNat)<=2^52*(y*2^(e+2).toNat):=by rw[Nat.pow_add,Nat.pow_add,<-Nat.mul_assoc];exact Nat.mul_le_mul_right _ (Nat.mul_le_mul_left _ hy2)
  exact Nat.le_trans (Nat.le_of_lt hx2) (Nat.le_trans (Nat.pow_le_pow_right (by decide) (by omega)) h2)
def qL(n:Nat):Prop:=n<2^4000
theorem qL.fits{n:Nat}(h:qL n):Fits n:=mC (Nat.lt_of_lt_of_le h (Nat.pow_le_pow_right (by decide) (by decide)))
theorem qL.mul_fits{n k:Nat}(h:qL n)(hk:k<=10000):Fits (n*2^k)/\Fits (n*2^k+1)/\Fits (n*2^k*2):=by
 have h1:n*2^k+1<=2^(4000+k):=by rw[Nat.pow_add];exact Nat.mul_lt_mul_of_pos_right h (Nat.pow_pos (by decide))
 have h3:n*2^k*2<=2^(4000+k+1):=by rw[Nat.pow_succ];exact Nat.mul_le_mul_right _ (by omega)
 have h2:2^(4000+k+1)<2^300000:=Nat.pow_lt_pow_right (by decide) (by omega);have h4:2^(4000+k)<=2^(4000+k+1):=Nat.pow_le_pow_right (by decide) (by omega);exact⟨mC (by omega),mC (by omega),mC (by omega)⟩
theorem qL.bE{n:Nat}(h:qL n):bE n<=4000:=(cW _ _).2 h
theorem qL.fits1{n:Nat}(h:qL n):Fits (n+1):=by have:=(h.mul_fits (k:=0) (by decide)).2.1;rwa[Nat.pow_zero,Nat.mul_one]at this
theorem qL.fits2{n:Nat}(h:qL n):Fits (n*2):=by have:=(h.mul_fits (k:=0) (by decide)).2.2;rwa[Nat.pow_zero,Nat.mul_one]at this
def ox(neg:Bool)(v:Nat):Nat:=if neg=true then v ||| 2^63 else v
theorem rp{q:Nat}(e:Int)(h:q<2^53):(eW q e).1<2^63:=by
 unfold eW;split
 ·simp only;omega
 ·split
  ·simp only;omega
  ·simp only;omega
theorem DJ(x y:Nat)(hy:0<y):(fe x y).1<2^63:=by
 unfold fe;split
 ·simp only;omega
 ·split
  ·rename_i h;exact rp _ ((cW _ _).1 h)
  ·split
   ·rename_i h;exact rp _ ((cW _ _).1 h)
   ·rename_i h0 _ _;have:=Ko x y h0 hy;exact rp _ (by omega)
theorem C6{v:Nat}(h:v<2^63):u64.wrap (((BitVec.ofInt u64.bits (v:Int) ||| BitVec.ofInt u64.bits 9223372036854775808).toNat:Nat):Int)=((v ||| 2^63:Nat):Int)/\v ||| 2^63=v+2^63:=by
 have h1:v ||| 2^63=v+2^63:=by
  have:=ps (c:=v) (a:=1) (k:=63) h
  rwa[Nat.one_mul]at this
 have e63:(2:Nat)^63=9223372036854775808:=by decide
 have h2:(BitVec.ofInt u64.bits (v:Int) ||| BitVec.ofInt u64.bits 9223372036854775808).toNat=v ||| 2^63:=by rw[e63];exact k6 (a:=v) (b:=9223372036854775808) (by omega) (by decide)
 rw[h2];refine⟨?_,h1⟩;rw[h1,aT];omega
theorem fK{n:Nat}(h:n<2^4000):qL n:=h
theorem Q6:qL 1:=Nat.one_lt_two_pow (by decide)
theorem JF{n:Nat}(h:n<18446744073709551616):qL n:=fK (Nat.lt_of_lt_of_le h (show (2:Nat)^64<=2^4000 from Nat.pow_le_pow_right (by decide) (by decide)))
theorem CC(a b:V):([a,b].length==2)=true:=rfl
def aG(c:UInt8):Bool:=decide (48<=c.toNat)&&decide (c.toNat<=57)
def ch(s:mP):Bool×mP:=
 match s with
 | []=>(false,[])
 |c::r=>if c=43 then(false,r)else if c=45 then(true,r) else(false,c::r)
theorem qG(c d:UInt8):((c.toNat:Int)==(d.toNat:Int))=decide (c=d):=by
 by_cases h:c=d
 ·subst h;simp
 ·have:c.toNat≠d.toNat:=λ e=>h (UInt8.toNat_inj.1 e);rw[beq_eq_false_iff_ne.2 (by omega)];simp[h]
theorem PT(c:UInt8):((c.toNat:Int)==43)=decide (c=43):=qG c 43
theorem zb(c:UInt8):((c.toNat:Int)==45)=decide (c=45):=qG c 45
theorem SG(c:UInt8):((c.toNat:Int)==46)=decide (c=46):=qG c 46
theorem PR(c:UInt8):((c.toNat:Int) != 101)=decide (c≠101):=by rw[bne,show ((c.toNat:Int)==101)=decide (c=101)from qG c 101];by_cases h:c=101<;>simp[h]
theorem SH(c:UInt8):((c.toNat:Int) != 69)=decide (c≠69):=by rw[bne,show ((c.toNat:Int)==69)=decide (c=69)from qG c 69];by_cases h:c=69<;>simp[h]
structure Tx where
 neg:Bool
 whole:mP
 part:mP
 en:Bool
 ex:mP
def im(neg:Bool)(w p s:mP):Tx×Bool:=
 if w=[]/\p=[] then(⟨neg,w,p,false,[]⟩,false)
 else match s with
  | []=>(⟨neg,w,p,false,[]⟩,true)
  |c::r=>if c≠101/\c≠69 then(⟨neg,w,p,false,[]⟩,false)
   else(⟨neg,w,p,(ch r).1,(ch r).2.takeWhile aG⟩,decide ((ch r).2.takeWhile aG≠[])&&decide ((ch r).2.dropWhile aG=[]))
def splitB(s:mP):Tx×Bool:=
 let n:=(ch s).1
 let w:=(ch s).2.takeWhile aG
 match (ch s).2.dropWhile aG with
 | []=>im n w [] []
 |c::r=>if c=46 then(if r.takeWhile aG=[] then(⟨n,w,[],false,[]⟩,false)else im n w (r.takeWhile aG) (r.dropWhile aG))else im n w [] (c::r)
theorem Je(l:mP):(l==[])=decide (l=[]):=by cases l<;>simp
def cw(c:UInt8):Nat:=c.toNat-48
def gZ(v:Nat)(d:mP):Nat:=d.foldl (λ a c=>a*10+cw c) v
def cI(d:mP):Nat:=gZ 0 d
theorem eS(c:UInt8):aG c=true↔48<=c.toNat/\c.toNat<=57:=by simp[aG]
theorem nD{c:UInt8}(h:aG c=true):cw c<10:=by have:=(eS c).1 h;unfold cw;omega
theorem dW{n:Nat}(h:n<=1000):10^n<2^4000:=by
 have h1:10^n<=10^1000:=Nat.pow_le_pow_right (by decide) h;have h2:10^1000<=16^1000:=Nat.pow_le_pow_left (by decide) 1000;have h3:(16:Nat)^1000=2^4000:=by rw[show (16:Nat)=2^4 from rfl,<-Nat.pow_mul]
 have h4:(10:Nat)^1000<16^1000:=Nat.pow_lt_pow_left (by decide) (by decide);omega
theorem JL:∀(d:mP) (v k:Nat),(∀c∈d,aG c=true)->v<10^k->gZ v d<10^(k+d.length)
 | [],v,k,_,h=>h
 |c::d,v,k,hd,h=>by
  have hc:=nD (hd c (by simp));have h2:v*10+cw c<10^(k+1):=by rw[Nat.pow_succ];omega
  have:=JL d (v*10+cw c) (k+1) (λ c h=>hd c (by simp[h])) h2;rw[List.length_cons,show k+(d.length+1)=k+1+d.length by omega];exact this
theorem rP{c:UInt8}(h:aG c=true):u8.wrap ((c.toNat:Int)-48)=(cw c:Int):=by have:=(eS c).1 h;unfold cw;rw[wrap_u8]<;>omega
def k8(t:Tx):Int×Bool:=
 if 3<(t.ex.dropWhile (· == 48)).length then(0,false)
 else
  let n:Int:=if t.en=true then -(cI (t.ex.dropWhile (· == 48)):Int) else(cI (t.ex.dropWhile (· == 48)):Int)
  (n,decide (-400<=n)&&decide (n<=400))
def iA(m:Int)(x:Nat):Nat×Nat:=if 0<m then(x*10^m.toNat,1) else(x,10^(-m).toNat)
def dp(s:mP):Nat×Int:=
 if (splitB s).2=false then(0,2)
 else if 60<(splitB s).1.whole.length+(splitB s).1.part.length then(0,4)
 else if (k8 (splitB s).1).2=false then(0,5)
 else
  let r:=iA ((k8 (splitB s).1).1-(splitB s).1.part.length) (cI ((splitB s).1.whole++(splitB s).1.part))
  if (fe r.1 r.2).2=false then(0,5) else(ox (splitB s).1.neg (fe r.1 r.2).1,0)
theorem mR(s:mP):∀c∈s.takeWhile aG,aG c=true:=by
 intro c hc
 induction s with
 |nil=>simp at hc
 |cons a s ih=>
  rw[List.takeWhile_cons]at hc;split at hc
  ·rename_i h;rcases List.mem_cons.1 hc with rfl|hc
   ·exact h
   ·exact ih hc
  ·simp at hc
theorem kW(neg:Bool)(w p s:mP):(im neg w p s).1.whole=w/\(im neg w p s).1.part=p:=by
 unfold im;split
 ·exact⟨rfl,rfl⟩
 ·split
  ·exact⟨rfl,rfl⟩
  ·split<;>exact⟨rfl,rfl⟩
theorem CJ(d:mP)(hd:∀c∈d,aG c=true):cI d<10^d.length:=by
 have:=JL d 0 0 hd (by decide)
 rwa[Nat.zero_add]at this
theorem FH{m:Int}{x:Nat}(hx:x<10^60)(h1:-500<=m)(h2:m<=500):qL (iA m x).1/\qL (iA m x).2/\0<(iA m x).2:=by
 unfold iA;split
 ·refine⟨?_,Q6,Nat.one_pos⟩;refine fK (Nat.lt_trans ?_ (dW (n:=60+m.toNat) (by omega)));rw[Nat.pow_add];exact Nat.mul_lt_mul_of_pos_right hx (Nat.pow_pos (by decide))
 ·exact⟨fK (Nat.lt_trans hx (dW (by decide))),fK (dW (by omega)),Nat.pow_pos (by decide)⟩
theorem Q3(n:Nat)(h:(65<=n/\n<=70)\/(97<=n/\n<=102)):u8.wrap ((BitVec.ofInt u8.bits (n:Int) ||| BitVec.ofInt u8.bits 32).toNat:Int)=if 97<=n then(n:Int) else(n:Int)+32:=by
 have:n=65\/n=66\/n=67\/n=68\/n=69\/n=70\/n=97\/n=98\/n=99\/n=100\/n=101\/n=102:=by omega
 rcases this with rfl|rfl|rfl|rfl|rfl|rfl|rfl|rfl|rfl|rfl|rfl|rfl<;>rfl
theorem uh(c:UInt8):qy c=true↔(48<=c.toNat/\c.toNat<=57)\/(97<=c.toNat/\c.toNat<=102)\/(65<=c.toNat/\c.toNat<=70):=by unfold qy;simp only[Bool.or_eq_true,Bool.and_eq_true,decide_eq_true_eq];omega
theorem Q4(c:UInt8)(h:qy c=true)(h2:¬c.toNat<=57):rk prog jz (.call 223 [V.d (D.i .u8 (c.toNat:Int))] [])=some (.d (.i .u8 ((cG c:Int)+87)),[]):=by
 have h3:=(uh c).1 h;rw[Xr,aD,Q3 c.toNat (by omega)];unfold cG;rw[if_neg h2];by_cases h4:97<=c.toNat
 ·rw[if_pos h4,if_pos h4,show ((c.toNat-87:Nat):Int)+87=(c.toNat:Int) by omega]
 ·rw[if_neg h4,if_neg h4,show ((c.toNat-55:Nat):Int)+87=(c.toNat:Int)+32 by omega]
theorem uf(c:UInt8)(h:qy c=true):cG c<16:=by
 have:=(uh c).1 h;unfold cG;split
 ·omega
 ·split<;>omega
def W4(s:mP)(l2:mP)(v:Int)(i:Nat):List (Nat×V):=
 [(1,vi 16),(8,vb false),(9,vs l2),(10,vu 1152921504606846976),(11,vu 18446744073709551615),(12,vb false),(13,vu v),
   (99,vl false (ofBytes s)),(100,vi (s.length:Int)),(101,vi (i:Int))]
theorem J0(l2:mP):∀(r p:mP) (v:Nat),(∀c∈r,qy c=true)->(p++r).length<=16->v<16^p.length->
  rk prog jz (.at_ 207 0 (fw 22527) (sv 172 (W4 (p++r) l2 (v:Int) p.length)) [] [])=
   some (.t [.d (.i .u64 ((r.foldl (λ a c=>a*16+cG c) v:Nat):Int)),.nifc],[])
 | [],p,v,hd,hl,hv=>by
  unfold W4;rw[List.append_nil,tz,bn,bo,aA,Dh,bo,aD];rfl
 |c::r,p,v,hd,hl,hv=>by
  have hc:=hd c (by simp);have hc3:=(uh c).1 hc;have hx:=uf c hc;have hlen:(p++c::r).length=p.length+(r.length+1):=by simp
  have hi:p.length<(p++c::r).length:=by omega
  have hel:(ofBytes (p++c::r))[p.length]?=some (.i .u8 (c.toNat:Int)):=by unfold ofBytes;simp
  have g1:bJ (ofBytes (p++c::r)) (p.length:Int)=some (.i .u8 (c.toNat:Int)):=by rw[bQ];exact hel
  have g2:(ofBytes (p++c::r))[(p.length:Int).toNat]?=some (.i .u8 (c.toNat:Int)):=by rw[Int.toNat_natCast];exact hel
  have hpl:(p++[c]).length=p.length+1:=by simp
  have hv2:v*16+cG c<16^(p++[c]).length:=by rw[hpl,Nat.pow_succ];omega
  have hp15:p.length<=15:=by omega
  have hv1:v<1152921504606846976:=Nat.lt_of_lt_of_le hv (Nat.le_trans (Nat.pow_le_pow_right (by decide) hp15) (by decide));have ih:=J0 l2 r (p++[c]) (v*16+cG c) (λ c h=>hd c (by simp[h])) (by simpa using hl) hv2;rw[List.append_assoc,List.singleton_append,hpl]at ih;have w16:u64.wrap 16=16:=rfl;have w16b:u8.wrap 16=16:=rfl;have w1:u64.wrap ((v:Int)*16)=((v*16:Nat):Int):=by rw[aT];omega
  have w2:u64.wrap ((cG c:Nat):Int)=((cG c:Nat):Int):=by rw[aT];omega
  have w3:u64.wrap (((v*16:Nat):Int)+((cG c:Nat):Int))=((v*16+cG c:Nat):Int):=by rw[aT];omega
  have w4:=Wv p.length;unfold W4 at ih⊢;rw[tz,bz,aR g1];show aC _ (aH true _)=_;rw[aN,aR g2,aR (a:=D.i .u8 (c.toNat:Int)) (by rfl),bS,bu,aA,we,bo,bz,aA];by_cases h57:c.toNat<=57
  ·have e:u8.wrap ((c.toNat:Int)-48)=((cG c:Nat):Int):=by unfold cG;rw[if_pos h57,wrap_u8]<;>omega
   rw[decide_eq_true (show (c.toNat:Int)<=57 by omega),mZ,bF,e,w16b,bn,bn,w16,w1,w2,w3,bn,aA,decide_eq_false (by omega),na,bo,w4,aA,ih];rfl
  ·have hlw:=Q4 c hc h57;have e1:u8.wrap ((cG c:Int)+87-97)=u8.wrap ((cG c:Int)-10):=by congr 1;omega
   have h10:10<=cG c:=by unfold cG;rw[if_neg h57];split<;>omega
   have e2:u8.wrap ((cG c:Int)-10)=(cG c:Int)-10:=by rw[wrap_u8]<;>omega
   have e3:u8.wrap ((cG c:Int)-10+10)=((cG c:Nat):Int):=by rw[wrap_u8]<;>omega
   rw[decide_eq_false (show ¬(c.toNat:Int)<=57 by omega),mZ,bo,ed hlw,bz,ed hlw,aA,decide_eq_true (by omega),uP,bF,ed hlw,e1,e2,e3,w16b,
    bn,bn,w16,w1,w2,w3,bn,aA,decide_eq_false (by omega),na,bo,w4,aA,ih]
   rfl
theorem W5(s:mP)(hne:s≠[])(hl:s.length<=16)(hd:∀c∈s,qy c=true):
  rk prog jz (.call 207 [vs s,vi 16,vi 64] [])=some (.t [.d (.i .u64 ((iP s:Nat):Int)),.nifc],[]):=by
 have hL:=J0 s s [] 0 hd (by simpa using hl) (by decide);rw[List.nil_append]at hL;unfold iP
 rw[Xl,cF (by cases s with|nil=>exact absurd rfl hne|cons c s=>rfl),aA,IQ,bF,bu (by decide),bn (by decide),aA,IT,decide_eq_false (by decide),bo,aA,
  IP,bu (by decide),bK rfl,aA,IS,aJ (by decide),Bool.and_true,aJ,aA]
 rw[show (ofBytes s).length=s.length from List.length_map ..];exact hL
open Go.Proofs Go.RowKit Go.Sort
set_option maxRecDepth 100000
theorem mixed:prog.follows .mixedOrders=true:=by kernel_rfl
theorem names : (prog.funcs.toList.all λ f => f.name != "runtime.NumGoroutine") = true := by kernel_rfl
theorem fQ (k : Nat) (fn : Func) (h : prog.funcs[k]? = some fn) : fn.name ≠ "runtime.NumGoroutine" := by
 have h1:fn∈prog.funcs.toList:=by rw[<-Array.getElem?_toList]at h;exact List.mem_of_getElem? h
 have:=List.all_eq_true.1 names fn h1;simpa using this
theorem zh{G:Sg}{x:V}{vs:Array Value}(hr:dJ G [x] vs.toList):∃v,vs=#[v]/\RV G x v:=by
 obtain⟨v,hv,hx⟩:=dJ.get hr (i:=0) rfl;have hl:=dJ.length hr;refine⟨v,?_,hx⟩;apply Array.ext'
 match hvs:vs.toList,hl,hv with
 | [y],_,hv=>simp at hv;subst hv;rfl
theorem mo{G:Sg}{x y:V}{vs:Array Value}(hr:dJ G [x,y] vs.toList):∃v u,vs=#[v,u]/\RV G x v/\RV G y u:=by
 obtain⟨v,hv,hx⟩:=dJ.get hr (i:=0) rfl;obtain⟨u,hu,hy⟩:=dJ.get hr (i:=1) rfl;have hl:=dJ.length hr;refine⟨v,u,?_,hx,hy⟩;apply Array.ext'
 match hvs:vs.toList,hl,hv,hu with
 | [a,b],_,hv,hu=>simp at hv hu;subst hv;subst hu;rfl
theorem below_grow(w:World)(k:Nat)(os:Array Obj):Below w.heap.size w (grow (w.drewN k) os):=
 ⟨rfl,rfl,rfl,by simp[grow,World.drewN],λ i hi=>heap_grow_old _ _ (by simpa using hi)⟩
theorem gJ{k:Nat}{args:List V}{S:List Ob}{x:D}{v:Value}{fn:Func}(hf:prog.funcs[k]?=some fn)(hb:fn.body.isSome=true)(hx:∀F,RD F x v)
  (h:∀w G vs,Inv w G S->dJ G args vs.toList->Calls prog k vs w λ e w'=>e = .returned v/\(w'=w\/∃n os,w'=grow (w.drewN n) os)):cf prog k args S (.d x,S):=by
 refine cf.of_below λ w G vs hI hr=>?_;refine gg.of_calls hf hb (fQ k fn hf) ((h w G vs hI hr).mono ?_);rintro e w' ⟨rfl,hw⟩;refine⟨v,rfl,?_,by simp only[RV];exact hx _⟩;rcases hw with rfl|⟨n,os,rfl⟩
 ·exact Below.refl _ _
 ·exact below_grow _ _ _
theorem ID {w : World} {G : Sg} {S : List Ob} (hI : Inv w G S) : Lib.TabIs prog w "internal/strconv.uint64pow10" .u64 Lib.pow10Tab := by
 obtain⟨⟨arr,x,y,e,rfl⟩,_⟩:=hI.tb 0 _ rfl;have hg : prog.globalNamed "internal/strconv.uint64pow10" = some 0 := by kernel_rfl
 unfold Lib.TabIs World.var?;rw[hg];simp only[Option.bind_some,e]
theorem decDigits_eq(n:Nat):Lib.decDigits n=cC n:=by
 induction n using Nat.strongRecOn with
 |ind n ih=>
  rw[Lib.decDigits,jZ];split
  ·rfl
  ·rw[ih _ (by omega)]
theorem Jy(n:Int):Lib.itoa n=cZ n:=by unfold Lib.itoa cZ;split<;>rw[decDigits_eq]
theorem KK(n:Nat)(h:n<4294967296):Lib.bitLen n=bE n:=by
 by_cases h0:n=0
 ·subst h0;rfl
 ·obtain⟨a,b,c⟩:=Lib.bitLenAux_bounds 64 n (by omega) h0
  have hb:Lib.bitLen n=Lib.bitLenAux 64 n:=rfl;rw[hb];have:=B6 (n:=n) (k:=Lib.bitLenAux 64 n-1) b (by rw[Nat.sub_add_cancel a];exact c);omega
theorem y4{args:List V}{S:List Ob}{o:Out}(h:jH args S=some o):cf prog 117 args S o:=by
 unfold jH at h;split at h
 ·rename_i x c;split at h
  ·rename_i hc;injection h with h;subst h
   refine gJ (v := .string ⟨(Lib.trimRightB x c).toArray⟩) Tryz.func117 (by kernel_rfl) (λ F=>by simp only[RD];rfl) λ w G vs hI hr=>?_;obtain⟨v,u,rfl,h1,h2⟩:=mo hr;simp only[RV,RD]at h1 h2;subst h1;subst h2;have hs:(⟨x.toArray⟩:ByteArray).size<=9223372036854775807:=by show x.toArray.size<=_;simp;omega
   exact(Tryz.strings_TrimRight_one ⟨x.toArray⟩ c hc.1 w hs).mono λ e w' h=>⟨h.1,.inl h.2⟩
  ·cases h
 ·cases h
theorem sC{k:Nat}{args:List V}{S:List Ob}{x:V}{v:Value}{fn:Func}(hf:prog.funcs[k]?=some fn)(hb:fn.body.isSome=true)(hx:∀G,RV G x v)
  (h:∀w G vs,Inv w G S->dJ G args vs.toList->Calls prog k vs w λ e w'=>e = .returned v/\Below w.heap.size w w'):cf prog k args S (x,S):=by
 refine cf.of_below λ w G vs hI hr=>?_;refine gg.of_calls hf hb (fQ k fn hf) ((h w G vs hI hr).mono ?_);rintro e w' ⟨rfl,hw⟩;exact⟨v,rfl,hw,hx _⟩
theorem RW{w:World}{G:Sg}{S:List Ob}(hI:Inv w G S):oH w:=λ b p hp=>(hI.tb b p hp).1
theorem Ok{w:World}{G:Sg}{S:List Ob}(hI:Inv w G S):∃m:Int,w.cell? ⟨1,0,none⟩=some (.int .i64 m):=by obtain⟨⟨arr,x,y,e,m,rfl⟩,_⟩:=hI.tb 1 _ rfl;exact⟨m,by simp[World.cell?,e]⟩
theorem Tryz.strings_TrimLeft_set(s:ByteArray)(w:World):
  Calls prog 183 #[.string s,.string ⟨#[43,45]⟩] w λ e w'=>e = .returned (.string ⟨(Lib.trimLeftS s.data.toList [43,45]).toArray⟩)/\Below w.heap.size w w':=
 Any.strings_TrimLeft_laid Go.Proofs.Tryz.lays161 (by kernel_rfl) s ⟨#[43,45]⟩ w (by decide) (ascii_of_all (by decide))
theorem zT{args:List V}{S:List Ob}{o:Out}(h:ig args S=some o):cf prog 183 args S o:=by
 unfold ig at h;split at h
 ·rename_i x c;split at h
  ·rename_i hc;injection h with h;subst h
   refine gJ (v := .string ⟨(Lib.trimLeftB x c).toArray⟩) Tryz.func183 (by kernel_rfl) (λ F=>by simp only[RD];rfl) λ w G vs hI hr=>?_;obtain⟨v,u,rfl,h1,h2⟩:=mo hr;simp only[RV,RD]at h1 h2;subst h1;subst h2;exact(Tryz.strings_TrimLeft_one ⟨x.toArray⟩ c hc w).mono λ e w' h=>⟨h.1,.inl h.2⟩
  ·cases h
 ·rename_i x;split at h
  ·rename_i hc;injection h with h;subst h
   refine sC (v := .string ⟨(Lib.trimLeftS x [43,45]).toArray⟩) Tryz.func183 (by kernel_rfl) (λ G=>?_) λ w G vs hI hr=>?_
   ·simp only[RV,RD];have e:Lib.trimLeftS x [43,45]=x.dropWhile λ c=>c==43||c==45:=by unfold Lib.trimLeftS;congr 1;funext c;rw[Bool.eq_iff_iff,List.contains_iff_mem];simp
    rw[e]
   ·obtain⟨v,u,rfl,h1,h2⟩:=mo hr;simp only[RV,RD]at h1 h2;subst h1;subst h2;exact Dec.Tryz.strings_TrimLeft_set ⟨x.toArray⟩ w
  ·cases h
 ·cases h
theorem find_index(t:mP):∀x:mP,Lib.index x t=qj (cH t x)
 | []=>by
  unfold Lib.index cH;cases t<;>rfl
 |c::r=>by
  have ih:=find_index t r;unfold Lib.index cH;rw[ih]
  cases h:t.isPrefixOf (c::r) with
  |true=>rfl
  |false=>
   rw[if_neg (show ¬(false=true) by decide),if_neg (show ¬(false=true) by decide)]
   cases cH t r with
   |none=>rfl
   |some n=>
    have hn:((n:Int) == -1)=false:=beq_eq_false_iff_ne.2 (by omega);show (if ((n:Int) == -1)=true then(-1:Int) else(n:Int)+1)=_;rw[hn,if_neg (by decide)];show _=((n+1:Nat):Int);omega
theorem zD(t x:mP):Lib.contains x t=(cH t x).isSome:=by
 unfold Lib.contains;rw[find_index]
 cases cH t x with
 |none=>rfl
 |some n=>exact decide_eq_true (Int.natCast_nonneg n)
theorem AL(c:UInt8):∀x:mP,Lib.indexByte x c=qj (x.findIdx? λ d=>d==c)
 | []=>rfl
 |d::r=>by
  have ih:=AL c r;unfold Lib.indexByte;rw[ih,List.findIdx?_cons]
  cases h:d==c with
  |true=>rfl
  |false=>
   rw[if_neg (show ¬(false=true) by decide),if_neg (show ¬(false=true) by decide)]
   cases r.findIdx? (λ d=>d==c) with
   |none=>rfl
   |some n=>
    have hn:((n:Int) == -1)=false:=beq_eq_false_iff_ne.2 (by omega);show (if ((n:Int) == -1)=true then(-1:Int) else(n:Int)+1)=_;rw[hn,if_neg (by decide)];show _=((n+1:Nat):Int);omega
theorem C7(x:mP)(h:x.length<=100000):(⟨x.toArray⟩:ByteArray).size<4294967281:=by show x.toArray.size<_;simp;omega
theorem zz{args:List V}{S:List Ob}{o:Out}(h:gS args S=some o):cf prog 57 args S o:=by
 unfold gS at h;split at h
 ·rename_i x t;split at h
  ·rename_i hc;injection h with h;subst h
   refine gJ (v := .bool (Lib.contains x t)) Tryz.func57 (by kernel_rfl) (λ F=>by simp only[RD];rw[zD]) λ w G vs hI hr=>?_;obtain⟨v,u,rfl,h1,h2⟩:=mo hr;simp only[RV,RD]at h1 h2;subst h1;subst h2;obtain⟨m,hm⟩:=Ok hI;exact(Tryz.strings_Contains ⟨x.toArray⟩ ⟨t.toArray⟩ m w (C7 x hc.1) hm).mono λ e w' h=>⟨h.1,.inl h.2⟩
  ·cases h
 ·cases h
theorem HA{args:List V}{S:List Ob}{o:Out}(h:lj args S=some o):cf prog 123 args S o:=by
 unfold lj at h;split at h
 ·rename_i x t;split at h
  ·rename_i hc;injection h with h;subst h
   refine gJ (v := .int .i64 (Lib.index x t)) Tryz.func123 (by kernel_rfl) (λ F=>by simp only[RD];rw[find_index]) λ w G vs hI hr=>?_;obtain⟨v,u,rfl,h1,h2⟩:=mo hr;simp only[RV,RD]at h1 h2;subst h1;subst h2;obtain⟨m,hm⟩:=Ok hI;exact(Tryz.strings_Index ⟨x.toArray⟩ ⟨t.toArray⟩ m w (C7 x hc.1) hm).mono λ e w' h=>⟨h.1,.inl h.2⟩
  ·cases h
 ·cases h
theorem xU{args:List V}{S:List Ob}{o:Out}(h:gk args S=some o):cf prog 85 args S o:=by
 unfold gk at h;split at h
 ·rename_i x c;split at h
  ·rename_i hc;injection h with h;subst h
   refine gJ (v := .int .i64 (Lib.indexByte x (UInt8.ofNat c.toNat))) Tryz.func85 (by kernel_rfl) (λ F=>by simp only[RD];rw[AL]) λ w G vs hI hr=>?_;obtain⟨v,u,rfl,h1,h2⟩:=mo hr;simp only[RV,RD]at h1 h2;subst h1;subst h2;exact(Tryz.strings_IndexByte ⟨x.toArray⟩ c w).mono λ e w' h=>⟨h.1,.inl h.2⟩
  ·cases h
 ·cases h
theorem Gc{args:List V}{S:List Ob}{o:Out}(h:mQ args S=some o):cf prog 138 args S o:=by
 unfold mQ at h;split at h
 ·rename_i x t;split at h
  ·rename_i hc;injection h with h;subst h
   refine gJ (v := .bool (Lib.hasSuffix x t)) Tryz.func138 (by kernel_rfl) (λ F=>by simp only[RD];rfl) λ w G vs hI hr=>?_;obtain⟨v,u,rfl,h1,h2⟩:=mo hr;simp only[RV,RD]at h1 h2;subst h1;subst h2;have:=C7 x hc.1;exact(Tryz.strings_HasSuffix ⟨x.toArray⟩ ⟨t.toArray⟩ w (by omega)).mono λ e w' h=>⟨h.1,.inl h.2⟩
  ·cases h
 ·cases h
theorem Wz:od prog jz:=by intro k g hg;simp[jz]at hg
theorem N3(s:mP)(hne:s≠[])(hl:s.length<=16)(hd:∀c∈s,qy c=true)(w:World)(hT:oH w):
  Calls prog 207 #[.string ⟨s.toArray⟩,.int .i64 16,.int .i64 64] w λ e w'=>e = .returned (.tuple #[.int .u64 ((iP s:Nat):Int),.nilIface])/\Below w.heap.size w w':=by
 have hg:=gG mixed Wz fQ (ic (W5 s hne hl hd)) w (ky w) #[.string ⟨s.toArray⟩,.int .i64 16,.int .i64 64] (F9 w hT)
  (by simp only[dJ];exact⟨_,_,rfl,rfl,_,_,rfl,rfl,_,_,rfl,rfl,rfl⟩) (λ b q=>by simp[ky])
 refine Calls.mono (hg.calls Tryz.func207 (by kernel_rfl) (fQ 207 _ Tryz.func207)) ?_;rintro e w' ⟨y,rfl,G',h1,h2,h3⟩;refine⟨?_,h3.os,h3.tape,h3.output,h3.size,λ b hb=>(h3.keep b hb (.inl (by simp[ky]))).2.1⟩;simp only[RV,dJ,RD]at h1;obtain⟨vs,rfl,v1,r1,e1,rfl,v2,r2,e2,rfl,rfl⟩:=h1;subst e2;refine congrArg (λ x=>Ending.returned (Value.tuple x)) (Array.ext' e1)
theorem Tryz.strconv_ParseUint_16(s:mP)(hne:s≠[])(hl:s.length<=16)(hd:∀c∈s,qy c=true)(w:World)(hT:oH w):
  Calls prog 182 #[.string ⟨s.toArray⟩,.int .i64 16,.int .i64 64] w λ e w'=>e = .returned (.tuple #[.int .u64 ((iP s:Nat):Int),.nilIface])/\Below w.heap.size w w':=by
 go_enter Go.Proofs.Tryz.func182,Go.Proofs.Tryz.ntmps182
 go_wp2_with (go_at_call 207;refine(N3 s hne hl hd _ hT).mono ?_;rintro e w' ⟨rfl,hw⟩)
 go_ret2
 exact⟨rfl,hw⟩
theorem zL{args:List V}{S:List Ob}{o:Out}(h:lT args S=some o):cf prog 182 args S o:=by
 unfold lT at h;split at h
 ·rename_i x b z;split at h
  ·rename_i hc;injection h with h;subst h
   obtain⟨rfl,rfl,hne,hl,hd⟩:=hc;refine sC (v := .tuple #[.int .u64 ((iP x:Nat):Int),.nilIface]) Tryz.func182 (by kernel_rfl) (λ G=>?_) λ w G vs hI hr=>?_
   ·simp only[RV,dJ,RD];exact⟨_,rfl,_,_,rfl,rfl,_,_,rfl,rfl,rfl⟩
   ·obtain⟨v,hv,h1⟩:=dJ.get hr (i:=0) rfl;obtain⟨u,hu,h2⟩:=dJ.get hr (i:=1) rfl;obtain⟨y,hy,h3⟩:=dJ.get hr (i:=2) rfl;have hlen:=dJ.length hr;simp only[RV,RD]at h1 h2 h3;subst h1;subst h2;subst h3;have e:vs=#[.string ⟨x.toArray⟩,.int .i64 16,.int .i64 64]:=by
     apply Array.ext'
     match hvs:vs.toList,hlen,hv,hu,hy with
     | [a,b,c],_,hv,hu,hy=>simp at hv hu hy;subst hv;subst hu;subst hy;rfl
    rw[e];exact Dec.Tryz.strconv_ParseUint_16 x hne hl (λ c h=>List.all_eq_true.1 hd c h) w (RW hI)
  ·cases h
 ·cases h
theorem Lv{args:List V}{S:List Ob}{o:Out}(h:sE args S=some o):cf prog 118 args S o:=by
 unfold sE at h;split at h
 ·rename_i n;split at h
  ·rename_i hc;injection h with h;subst h
   refine gJ (v := .string ⟨(Lib.itoa n).toArray⟩) Tryz.func118 (by kernel_rfl) (λ F=>by simp only[RD];rw[Jy]) λ w G vs hI hr=>?_;obtain⟨v,rfl,h1⟩:=zh hr;simp only[RV,RD]at h1;subst h1;exact(Tryz.strconv_Itoa n (by omega) (by omega) w (ID hI)).mono λ e w' h=>⟨h.1,.inr h.2⟩
  ·cases h
 ·cases h
theorem Cu{args:List V}{S:List Ob}{o:Out}(h:jT args S=some o):cf prog 167 args S o:=by
 unfold jT at h;split at h
 ·rename_i n b;split at h
  ·rename_i hc;injection h with h;subst h
   obtain⟨rfl,hc1,hc2⟩:=hc;refine gJ (v := .string ⟨(Lib.decDigits n.toNat).toArray⟩) Tryz.func167 (by kernel_rfl) (λ F=>by simp only[RD];rw[decDigits_eq]) λ w G vs hI hr=>?_;obtain⟨v,u,rfl,h1,h2⟩:=mo hr;simp only[RV,RD]at h1 h2;subst h1;subst h2;have e:n=((n.toNat:Nat):Int):=by omega
   have:=Tryz.strconv_FormatUint_10 n.toNat (by omega) w (ID hI);rw[<-e]at this;exact this.mono λ e w' h=>⟨h.1,.inr h.2⟩
  ·cases h
 ·cases h
theorem HJ{args:List V}{S:List Ob}{o:Out}(h:o9 args S=some o):cf prog 163 args S o:=by
 unfold o9 at h;split at h
 ·rename_i n;split at h
  ·rename_i hc;injection h with h;subst h
   refine gJ (v := .int .i64 (Lib.bitLen n.toNat)) Tryz.func163 (by kernel_rfl) (λ F=>by simp only[RD];rw[KK _ (by omega)]) λ w G vs hI hr=>?_;obtain⟨v,rfl,h1⟩:=zh hr;simp only[RV,RD]at h1;subst h1;exact(Tryz.bits_Len32 n w (by omega) (by omega)).mono λ e w' h=>⟨h.1,.inl h.2⟩
  ·cases h
 ·cases h
theorem uQ{xs:List D}{a:List Int}(h:lv .u32 xs=some a):xs=ints .u32 a:=by
 induction xs generalizing a with
 |nil=>simp[lv]at h;subst h;rfl
 |cons x xs ih=>
  cases x<;>simp only[lv]at h<;>try (cases h)
  rename_i j n;split at h
  ·rename_i e;subst e;obtain⟨l,hl,rfl⟩:=Option.map_eq_some_iff.1 h;rw[ih hl];rfl
  ·cases h
theorem rQ{xs:List V}{a:List Int}(h:iJ xs=some a):xs=cellsOf a:=by
 induction xs generalizing a with
 |nil=>simp[iJ]at h;subst h;rfl
 |cons x xs ih=>
  unfold iJ at h;split at h
  ·rename_i e;cases e
  ·rename_i e;injection e with e1 e2;subst e1;subst e2
   obtain⟨l,hl,rfl⟩:=Option.map_eq_some_iff.1 h;rw[ih hl];rfl
  ·cases h
theorem JS{a:List Int}(h:Su a=true):dR a/\a.length<=100000:=by simp only[Su,Bool.and_eq_true,decide_eq_true_eq,List.all_eq_true]at h;exact⟨λ z hz=>by have:=h.1 z hz;exact this,h.2⟩
theorem U7:od prog kG:=by intro k g hg;simp[kG]at hg
theorem Wy:od prog zM:=by intro k g hg;simp[zM]at hg
theorem KW{args:List V}{S:List Ob}{o:Out}(h:nA args S=some o):cf prog 162 args S o:=by
 unfold nA at h;split at h
 ·rename_i b xs;split at h
  ·rename_i a ha;split at h
   ·rename_i hok;injection h with h;subst h
    obtain⟨hu,hl⟩:=JS hok;rw[uQ ha];have:=Nl b a hu (by omega);exact gG mixed Wy fQ (ic (by rw[this];simp[GU,cellsOf,ints]))
   ·cases h
  ·cases h
 ·rename_i n cs;split at h
  ·rename_i a ha;split at h
   ·rename_i hok;injection h with h;subst h
    obtain⟨rfl,hok⟩:=hok;obtain⟨hu,hl⟩:=JS hok;rw[rQ ha];exact gG mixed U7 fQ (ic (DS a hu (by omega)))
   ·cases h
  ·cases h
 ·cases h
theorem KS{args:List V}{S:List Ob}{o:Out}(h:se args S=some o):cf prog 164 args S o:=by
 unfold se at h;split at h
 ·rename_i n m ds cs;split at h
  ·rename_i a b ha hb;split at h
   ·rename_i hok;injection h with h;subst h
    obtain⟨rfl,rfl,hok1,hok2⟩:=hok;obtain⟨hu1,hl1⟩:=JS hok1;obtain⟨hu2,hl2⟩:=JS hok2;rw[rQ ha,rQ hb];exact gG mixed U7 fQ (ic (Ni a b hu1 hu2 hl1 hl2))
   ·cases h
  ·cases h
 ·cases h
theorem QK:od prog lF:=by
 intro k g hg args S o ho;simp only[lF,U8]at hg;split at hg
 ·injection hg with hg;subst hg;exact KW ho
 ·injection hg with hg;subst hg;exact KS ho
 ·cases hg
theorem Pw{args:List V}{S:List Ob}{o:Out}(h:yO args S=some o):cf prog 218 args S o:=by
 unfold yO at h;split at h
 ·rename_i b xs c ys;split at h
  ·rename_i a e ha he;split at h
   ·rename_i hok;injection h with h;subst h
    obtain⟨h1,h2,h3,h4⟩:=hok;have u1:dR a:=λ z hz=>by have:=List.all_eq_true.1 h1 z hz;simpa using this
    have u2:dR e:=λ z hz=>by have:=List.all_eq_true.1 h2 z hz;simpa using this
    rw[uQ ha,uQ he];exact gG mixed QK fQ (ic (RS b c a e u1 u2 h3 h4))
   ·cases h
  ·cases h
 ·cases h
theorem D7:od prog aF:=by
 intro k g hg args S o ho;simp only[aF,ext]at hg;split at hg
 ·injection hg with hg;subst hg;exact y4 ho
 ·injection hg with hg;subst hg;exact zT ho
 ·injection hg with hg;subst hg;exact Lv ho
 ·injection hg with hg;subst hg;exact Cu ho
 ·injection hg with hg;subst hg;exact HJ ho
 ·injection hg with hg;subst hg;exact Pw ho
 ·injection hg with hg;subst hg;exact zz ho
 ·injection hg with hg;subst hg;exact HA ho
 ·injection hg with hg;subst hg;exact xU ho
 ·injection hg with hg;subst hg;exact Gc ho
 ·injection hg with hg;subst hg;exact zL ho
 ·cases hg
open Go.Proofs Go.Proofs.YtbjllhjbhdjfjaaGreatDoor Go.RowKit
def EU : List (String × DataW Unit) := [("math/bits.deBruijn32tab", Rows.laid_math_bits_deBruijn32tab), ("math/bits.deBruijn64tab", Rows.laid_math_bits_deBruijn64tab), ("internal/strconv.uint64pow10", Rows.laid_internal_strconv_uint64pow10), ("unicode/utf8.acceptRanges", Rows.laid_unicode_utf8_acceptRanges), ("unicode/utf8.first", Rows.laid_unicode_utf8_first)]
theorem OR:(Rows.laid_internal_strconv_uint64pow10:DataW Unit)=Lib.tabData .u64 Lib.pow10Tab:=by kernel_rfl
theorem TJ{W:World}(h:W.ShapedOpen prog):∃m,W.cell? ⟨1,0,none⟩=some (.int .i64 m):=
 cell_of_shapedOpen_int (g:=1) (t:=3) (zero:=#[.int .i64 0]) h (by decide) (by kernel_rfl) rfl (by kernel_rfl) (by kernel_rfl) Tryz.underlying3
theorem MA {W : World} {r : List (String × DataW Unit)} (hs : W.ShapedOpen prog) (h3 : laidMet prog (("internal/strconv.uint64pow10", Rows.laid_internal_strconv_uint64pow10) :: r) W) : oH W := by
 rw[OR]at h3;have ht : Lib.TabIs prog W "internal/strconv.uint64pow10" .u64 Lib.pow10Tab :=
  Lib.tabIs_of_head (g:=0) (t:=214) (e:=49) (n:=20) (by kernel_rfl) (by kernel_rfl) Tryz.underlying214 Tryz.underlying49 (by kernel_rfl) (by kernel_rfl) h3
 intro b p hb;unfold yY at hb;split at hb
 ·rename_i e;subst e;injection hb with hb;subst hb
  have hg : prog.globalNamed "internal/strconv.uint64pow10" = some 0 := by kernel_rfl
  unfold Lib.TabIs World.var? at ht;rw[hg]at ht;simp only[Option.bind_some]at ht;split at ht
  ·rename_i cs x y hc;injection ht with ht;subst ht
   exact⟨_,x,y,hc,rfl⟩
  ·cases ht
 ·split at hb
  ·rename_i e;subst e;injection hb with hb;subst hb
   obtain⟨cs,hh,hsz,_⟩:=hs.1 1 #[.int .i64 0] 3 (by decide) (by kernel_rfl);obtain⟨m,hm⟩:=TJ hs;have hsz1:cs.size=1:=hsz;have h1:0<cs.size:=by omega
   have hcell:W.cell? ⟨1,0,none⟩=some cs[0]:=by simp[World.cell?,hh,h1]
   rw[hcell]at hm;refine⟨cs,3,_,hh,m,?_⟩;apply Array.ext
   ·exact hsz1
   ·intro i hi1 hi2;have:i=0:=by omega
    subst this;exact Option.some.inj hm
  ·cases hb
theorem ql{H:Type}{enc:TypeId×Value->H}{C:Checked}{os:Os}{f:FuncId}{fn:Func}{s:ChangeSpec}{conds:List PathCond}{apart fresh handsOn again:Bool}{X:World->Array Value->Prop}
  (hX:∀(w w':World) (args:Array Value),w.heap=w'.heap->X w args->X w' args)
  (own:ownKnob C.prog.godebug=none) (started:os.Started) (noInit:C.prog.inits.idxOf? f=none) (hfn:C.prog.funcs[f]?=some fn)
  (witness:∃(w:World) (tape:Tape) (i:Input),w.os=os/\(w.forCall tape i).Shaped C.prog/\i.vars=[]/\Input.okWide C.prog (w.forCall tape i) .any w.heap.size f i/\
   ((s.pre enc C.prog fn conds apart (w.forCall tape i).memory i.args/\X (w.forCall tape i).memory i.args)/\sizedMet enc C.prog fn (OpenSpec.ofChange s) apart (w.forCall tape i).memory i.args)/\Assume.holds {} C.prog (lone (Frame.enter C.prog f i.args .normal) [] (w.forCall tape i)))
  (walk:∀(W:World) (base:Nat) (args:Array Value) (ds gs:List (DataW H)) (before:List MemPlace),
   (∀(j:Nat) t v,fn.params[j]?=some t->args[j]?=some v->Value.okWide C.prog W .any base t v)->
   DataW.Whole enc C.prog fn.params.toList s.vars apart W args.toList ds gs before->X W args->W.ShapedOpen C.prog->
   Calls C.prog f args W λ e W'=>∃v,e = .returned v/\s.post enc C.prog fn apart fresh handsOn again W args v W'):
  ReturnsInHanded {} C os f .any (λ w args=>(s.pre enc C.prog fn conds apart w args/\X w args)/\sizedMet enc C.prog fn (OpenSpec.ofChange s) apart w args) (s.post enc C.prog fn apart fresh handsOn again):=by
 refine returnsInHanded_of_calls own started noInit witness λ w tape i _ hsh _ hok hpre _=>?_;obtain⟨⟨⟨ds,gs,before,hw,_⟩,hx⟩,_⟩:=hpre;obtain⟨_,_,_,fn',hfn',_,_,_,_,hval⟩:=hok;rw[hfn]at hfn';cases hfn';refine(walk (w.forCall tape i) w.heap.size i.args ds gs before hval (DataW.Whole.of_heap (w':=w.forCall tape i) (by rfl) hw) (hX _ (w.forCall tape i) _ (by rfl) hx) hsh).mono λ e W' h=>?_;obtain⟨v,rfl,hp⟩:=h;exact ChangeSpec.post_blind hp
theorem Pz{W:World}(hs:W.ShapedOpen prog)(h:laidMetH prog EU W):oH W:=by rw[MakeChecks.laidMetH_plain _ _ _ (by kernel_rfl)]at h;exact MA hs h.tail.tail
end Go.Dn.Dec
