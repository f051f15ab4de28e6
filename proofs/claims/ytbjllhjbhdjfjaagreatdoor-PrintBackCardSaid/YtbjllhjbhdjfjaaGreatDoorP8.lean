/- the document's lexer: number. -/
import Derived.Test.YtbjllhjbhdjfjaaGreatDoorP7
import Derived.Test.YtbjllhjbhdjfjaaGreatDoorP6
import Derived.KernelRfl
import Derived.Test.YtbjllhjbhdjfjaaGreatDoorP4
import Derived.Test.YtbjllhjbhdjfjaaGreatDoorP5
set_option linter.unusedVariables false
set_option linter.unusedSimpArgs false
set_option linter.unusedSectionVars false
namespace Go.Dn.Dec
open Go.IntKind (i64 u64 u8 u16 i32 u32)
open Go.Proofs
open Tryz (prog)
section
variable {f : Task → Option Out}
theorem jB{a c d:V}{i:Int}{K:Int->Tr}:aD f (ob [a,vi i,c,d][1]? λ v=>bG v λ d=>cf .i64 d λ n=>K n)=aD f (K i):=by rw[bz (a:=vi i) (by rfl),dN,cT]
theorem k6{b c d:V}{s:aE}{K:aE->Tr}:aD f (ob [vs s,b,c,d][0]? λ v=>bG v λ d=>fJ d λ n=>K n)=aD f (K s):=by rw[bz (a:=vs s) (by rfl),dN,sn]
theorem uO{b:Bool}{X:Tr}(h:b=true):aD f (aO b X)=aD f X:=by rw[h,aQ]
theorem yz(a b c d v:V):[a,b,c,d].set 1 v=[a,v,c,d]:=rfl
end
theorem Ar(c:UInt8)(q:aE):kR (c::q)=if c=101\/c=69 then(if (((c::q).drop (na q)).takeWhile aP)=[]then 0 else na q+(((c::q).drop (na q)).takeWhile aP).length)else 0:=rfl
theorem Aq(d:UInt8)(q:aE):na (d::q)=if d=43\/d=45 then 2 else 1:=rfl
abbrev nv(a:Nat)(r:List (Nat×V)):List (Nat×V):=(0,V.p 0 0)::(2,V.p 1 0)::(3,vi (a:Int))::r
abbrev xX(a:Nat)(wh fr:Bool)(o:Ob):Task:=Task.at_ 99 1 (aJ 447) (sv 242 (nv a [(4,vb wh),(97,vb fr)])) [] [ez,o]
abbrev qJ(a:Nat)(wh ex:Bool)(o:Ob):Task:=Task.at_ 99 1 (aJ 895) (sv 242 (nv a [(4,vb wh),(140,vb ex)])) [] [ez,o]
abbrev xW(a:Nat)(wh sg:Bool)(o:Ob):Task:=Task.at_ 99 1 (aJ 3455) (sv 242 (nv a [(4,vb wh),(5,vb sg)])) [] [ez,o]
abbrev mo(a:Nat)(wh sg go:Bool)(o:Ob):Task:=Task.at_ 99 1 (aJ 7551) (sv 242 (nv a [(4,vb wh),(5,vb sg),(186,vb go)])) [] [ez,o]
theorem Mf(s:aE)(i:Nat)(m w:Int)(a:Nat):∃cs,oP s i m w a=aC cs/\cs.length=4:=by
 unfold oP aX;split
 ·exact⟨_,rfl,rfl⟩
 ·split
  ·exact⟨_,rfl,rfl⟩
  ·exact⟨_,rfl,rfl⟩
theorem pP(s:aE)(x:Nat)(hx:x<=s.length)(w er:Int)(k:Nat)(n:Int)(d a:Nat):
  rk prog aK (.at_ 99 1 (aJ 4095) (sv 242 [(0,V.p 0 0),(2,V.p 1 0),(6,V.p 2 0),(7,vi er)]) []
   [aC (dJ [] (k:Int) n (d:Int) (a:Int)),ez,aX s (x:Int) 0 w])=
   some (.d (Tok.D ⟨k,[],n,d,a⟩),[oP s x er w a]):=by
 have hb:=Af s x hx ⟨k,[],n,d,a⟩ er w;obtain⟨cs,hcs,hl⟩:=Mf s x er w a;have hb:rk prog aK (.call 151 [V.p 0 0,V.d (D.g [D.i .i64 (k:Int),D.s [],D.i .i64 n,D.i .u64 (d:Int),D.i .i64 (a:Int)]),vi er] [aX s (x:Int) 0 w])=
   some (.d (D.g [D.i .i64 (k:Int),D.s [],D.i .i64 n,D.i .u64 (d:Int),D.i .i64 (a:Int)]),[aC cs]):=by rw[<-hcs];exact hb
 rw[hcs];unfold ez;unfold aX at *;rw[Hg,DV hb (by exact hl) (by rfl) (by rfl),aG];rfl
def wY(s:aE)(a x:Nat)(w:Int):Option Out:=some (.d (Tok.D ⟨3,[],0,(et ((s.drop a).take (x-a))).1,a⟩),[oP s x (et ((s.drop a).take (x-a))).2 w a])
theorem Mw(s:aE)(hs:s.length<=2000):rk prog aK (.call 150 [vs s] [])=some (.t [.d (.i .u64 ((et s).1:Nat)),.d (.i .i64 (et s).2)],[]):=by rw[Iw s hs,UR];rfl
section
variable (s : aE) (hs : s.length ≤ 2000) (a x : Nat) (hax : a ≤ x) (hx : x ≤ s.length) (w : Int)
include hs hax hx
set_option linter.unusedSectionVars false in
theorem DM:List.take (((x:Int)).toNat-((a:Nat):Int).toNat) (List.drop ((a:Nat):Int).toNat s)=(s.drop a).take (x-a):=by rw[abe,abe]
theorem Xt:rk prog aK (.call 150 [vs ((s.drop a).take (x-a))] [])=some (.t [.d (.i .u64 ((et ((s.drop a).take (x-a))).1:Nat)),.d (.i .i64 (et ((s.drop a).take (x-a))).2)],[]):=
 Mw _ (by rw[List.length_take,abB];omega)
theorem HZ:rk prog aK (qJ a false false (aX s (x:Int) 0 w))=wY s a x w:=by have hc:=DM s hs a x hax hx;have hp:=Xt s hs a x hax hx;have hf:=pP s x hx w (et ((s.drop a).take (x-a))).2 3 0 (et ((s.drop a).take (x-a))).1 a;unfold wY;rw[<-hf];unfold qJ ez aX;rw[qp,bH,bH,k6,jB,aN,aN,hc,BB hp,aA];rfl
theorem Fe(sg:Bool):rk prog aK (mo a false sg false (aX s (x:Int) 0 w))=wY s a x w:=by have hc:=DM s hs a x hax hx;have hp:=Xt s hs a x hax hx;have hf:=pP s x hx w (et ((s.drop a).take (x-a))).2 3 0 (et ((s.drop a).take (x-a))).1 a;unfold wY;rw[<-hf];unfold mo ez aX;rw[nW,bH,bH,k6,jB,aN,aN,hc,BB hp,aA];rfl
theorem CM{n er:Int}(h:rk prog aK (.call 149 [vs ((s.drop a).take (x-a))] [])=some (.t [.d (.i .i64 n),.d (.i .i64 er)],[])):
  rk prog aK (qJ a true false (aX s (x:Int) 0 w))=some (.d (Tok.D ⟨2,[],n,0,a⟩),[oP s x er w a]):=by
 have hc:=DM s hs a x hax hx;have hf:=pP s x hx w er 2 n 0 a;rw[<-hf];unfold qJ ez aX;rw[qp,bH,bQ,k6,jB,aN,aN,hc,BB h,aA];rfl
theorem zH(sg:Bool){n er:Int}(h:rk prog aK (.call 149 [vs ((s.drop a).take (x-a))] [])=some (.t [.d (.i .i64 n),.d (.i .i64 er)],[])):
  rk prog aK (mo a true sg false (aX s (x:Int) 0 w))=some (.d (Tok.D ⟨2,[],n,0,a⟩),[oP s x er w a]):=by
 have hc:=DM s hs a x hax hx;have hf:=pP s x hx w er 2 n 0 a;rw[<-hf];unfold mo ez aX;rw[nW,bH,bQ,k6,jB,aN,aN,hc,BB h,aA];rfl
end
theorem A8(s:aE)(hs:s.length<=2000)(a x k:Nat)(hk:k=1\/k=2)(hax:a<=x)(hx:x+k<=s.length)(w:Int)(wh:Bool):
  rk prog aK (mo a wh (decide (k=2)) true (aX s (x:Int) 0 w))=wY s a (x+k+((s.drop (x+k)).takeWhile aP).length) w:=by
 have hle:=jU (s.drop (x+k)) aP;rw[abB]at hle;have hdg:=uf s (by omega) (x+k) hx 0 w;have hc:=DM s hs a (x+k+((s.drop (x+k)).takeWhile aP).length) (by omega) (by omega);have hp:=Xt s hs a (x+k+((s.drop (x+k)).takeWhile aP).length) (by omega) (by omega);have hf:=pP s (x+k+((s.drop (x+k)).takeWhile aP).length) (by omega) w (et ((s.drop a).take (x+k+((s.drop (x+k)).takeWhile aP).length-a))).2 3 0 (et ((s.drop a).take (x+k+((s.drop (x+k)).takeWhile aP).length-a))).1 a;have w1:=ca x;unfold wY;rw[<-hf];rcases hk with rfl|rfl
 ·rw[show decide ((1:Nat)=2)=false from rfl];unfold mo ez;unfold aX at *;rw[nW,bQ,jB,uO (by rfl),w1,bH,yz,dL hdg (by rfl) (by rfl),k6,jB,aN,aN,hc,BB hp,aA];rfl
 ·have w2:i64.wrap (((x+1:Nat):Int)+1)=((x+2:Nat):Int):=bD;rw[show decide ((2:Nat)=2)=true from rfl];unfold mo ez;unfold aX at *;rw[nW,bQ,jB,uO (by rfl),w1,bQ,yz,jB,uO (by rfl),w2,yz,dL hdg (by rfl) (by rfl),k6,jB,aN,aN,hc,BB hp,aA];rfl
theorem Qu(s:aE)(hs:s.length<=2000)(a x:Nat)(hax:a<=x)(c:UInt8)(hd:s.drop x=c::s.drop (x+1))(hc:c=101\/c=69)(hx:x<s.length)(w:Int)(wh:Bool):
  rk prog aK (qJ a wh true (aX s (x:Int) 0 w))=
   if kR (s.drop x)≠0 then wY s a (x+kR (s.drop x)) w else rk prog aK (mo a wh (decide (na (s.drop (x+1))=2)) false (aX s (x:Int) 0 w)):=by
 have w1:=ca x;have hh1:rk prog aK (.call 148 [V.p 0 0,vi 1] [aX s (x:Int) 0 w])=_:=G9 s (by omega) x 1 (by omega) (by omega) 0 w;have hh2:rk prog aK (.call 148 [V.p 0 0,vi 2] [aX s (x:Int) 0 w])=_:=G9 s (by omega) x 2 (by omega) (by omega) 0 w;have hgd1:=Ha (s.drop x) 1;have hgd2:=Ha (s.drop x) 2;have hE:kR (s.drop x)=if ((s.drop x).drop (na (s.drop (x+1)))).takeWhile aP=[]then 0 else na (s.drop (x+1))+(((s.drop x).drop (na (s.drop (x+1)))).takeWhile aP).length:=by rw[hd,Ar,aaR hc]
 have hsg:rk prog aK (qJ a wh true (aX s (x:Int) 0 w))=rk prog aK (xW a wh (decide (na (s.drop (x+1))=2)) (aX s (x:Int) 0 w)):=by
  rcases abn (x+1) s.length with hlt|hge
  ·obtain⟨d,hd2,hg2⟩:=drop_at hlt;have e43:((d.toNat:Int)==43)=(d==43):=cY d 43;have T4:((d.toNat:Int)==45)=(d==45):=cY d 45;rw[hd2,Aq];unfold qJ xW ez aX;rw[qp,bQ,jB,k6,w1,bC,k6,jB,w1,bz hg2,e43];by_cases h43:d=43
   ·rw[eH (beq_iff_eq.2 h43),aA,aaR (Or.inl h43)];rfl
   ·rw[cX (abr.2 h43),k6,jB,w1,bz hg2,aA,T4];by_cases h45:d=45
    ·rw[aaR (Or.inr h45),beq_iff_eq.2 h45];rfl
    ·rw[aaN (by rintro(h|h);exact h43 h;exact h45 h),abr.2 h45];rfl
  ·rw[abJ hge];unfold qJ xW ez aX;rw[qp,bQ,jB,k6,w1,bB,aA];rfl
 rw[hsg,hE];have hK:na (s.drop (x+1))=1\/na (s.drop (x+1))=2:=by
  unfold na;split
  ·split
   ·exact Or.inr rfl
   ·exact Or.inl rfl
  ·exact Or.inl rfl
 have h7f:∀sg:Bool,rk prog aK (mo a wh sg true (aX s (x:Int) 0 w))=rk prog aK (mo a wh sg true (aX s (x:Int) 0 w)):=λ _=>rfl;rcases hK with hK|hK
 ·rw[hK,show decide ((1:Nat)=2)=false from rfl]
  cases hdg:aP ((s.drop x).getD 1 0) with
  |true=>
   have hne:=hgd1.1 hdg;have hlen:x+1<=s.length:=by omega
   have h7:=A8 s hs a x 1 (Or.inl rfl) hax hlen w wh;rw[aaN hne,aaR (by omega),<-aby,List.drop_drop,<-h7,show decide ((1:Nat)=2)=false from rfl];rw[hdg]at hh1;unfold xW mo ez;unfold aX at *;rw[nV,dL hh1 (by rfl) (by rfl),bQ,aA]
  |false=>
   have hnil:((s.drop x).drop 1).takeWhile aP=[]:=by
    rcases Classical.em (((s.drop x).drop 1).takeWhile aP=[])with h|h
    ·exact h
    ·have:=hgd1.2 h;rw[hdg]at this;cases this
   rw[aaR hnil,cE];rw[hdg]at hh1;unfold xW mo ez;unfold aX at *;rw[nV,dL hh1 (by rfl) (by rfl),bH,bH,aA]
 ·-- a sign: the byte behind the letter is no digit
  have hno:aP ((s.drop x).getD 1 0)=false:=by
   rw[hd,List.getD_cons_succ]
   cases hq:s.drop (x+1) with
   |nil=>rfl
   |cons d q=>
    rw[hq]at hK;rw[Aq]at hK;split at hK
    ·rename_i h;show aP d=false;rcases h with rfl|rfl<;>rfl
    ·omega
  rw[hno]at hh1;rw[hK,show decide ((2:Nat)=2)=true from rfl]
  cases hdg:aP ((s.drop x).getD 2 0) with
  |true=>
   have hne:=hgd2.1 hdg;have hlen:x+2<=s.length:=by
    rcases abn s.length (x+2)with h|h
    ·rw[List.drop_drop,abJ (by omega)]at hne;exact absurd rfl hne
    ·exact h
   have h7:=A8 s hs a x 2 (Or.inr rfl) hax hlen w wh;rw[aaN hne,aaR (by omega),<-aby,List.drop_drop,<-h7,show decide ((2:Nat)=2)=true from rfl];rw[hdg]at hh2;unfold xW mo ez;unfold aX at *;rw[nV,dL hh1 (by rfl) (by rfl),bH,bQ,dL hh2 (by rfl) (by rfl),aA]
  |false=>
   have hnil:((s.drop x).drop 2).takeWhile aP=[]:=by
    rcases Classical.em (((s.drop x).drop 2).takeWhile aP=[])with h|h
    ·exact h
    ·have:=hgd2.2 h;rw[hdg]at this;cases this
   rw[aaR hnil,cE];rw[hdg]at hh2;unfold xW mo ez;unfold aX at *;rw[nV,dL hh1 (by rfl) (by rfl),bH,bQ,dL hh2 (by rfl) (by rfl),aA]
def D3(s:aE)(a x:Nat)(w:Int)(wh:Bool)(n er:Int):Option Out:=
 if kR (s.drop x)≠0 then wY s a (x+kR (s.drop x)) w else if wh=true then some (.d (Tok.D ⟨2,[],n,0,a⟩),[oP s x er w a])else wY s a x w
theorem JU(s:aE)(hs:s.length<=2000)(a x:Nat)(hax:a<=x)(hx:x<=s.length)(w:Int)(wh:Bool)(n er:Int)
  (h10:wh=true->rk prog aK (.call 149 [vs ((s.drop a).take (x-a))] [])=some (.t [.d (.i .i64 n),.d (.i .i64 er)],[])) (b:Bool)
  (hb:b=((s.drop x).getD 0 0==101||(s.drop x).getD 0 0==69)):
  rk prog aK (qJ a wh b (aX s (x:Int) 0 w))=D3 s a x w wh n er:=by
 unfold D3
 cases b with
 |true=>
  rcases abn x s.length with hlt|hge
  ·obtain⟨c,hd,hg⟩:=drop_at hlt;rw[hd,List.getD_cons_zero]at hb;have hc:c=101\/c=69:=by simpa using hb.symm
   rw[Qu s hs a x hax c hd hc hlt w wh];by_cases h:kR (s.drop x)≠0
   ·rw[aaR h,aaR h]
   ·rw[aaN h,aaN h]
    cases wh with
    |true=>rw[aaR rfl];exact zH s hs a x hax hx w _ (h10 rfl)
    |false=>rw[aaN (by decide)];exact Fe s hs a x hax hx w _
  ·rw[abJ hge]at hb;exact absurd hb (by decide)
 |false=>
  have h0:kR (s.drop x)=0:=by
   cases hq:s.drop x with
   |nil=>rfl
   |cons c q=>
    rw[hq,List.getD_cons_zero]at hb;have hc:¬(c=101\/c=69):=by rintro(rfl|rfl)<;>exact absurd hb (by decide)
    rw[Ar,aaN hc]
  rw[cE]
  cases wh with
  |true=>rw[aaR rfl];exact CM s hs a x hax hx w (h10 rfl)
  |false=>rw[aaN (by decide)];exact HZ s hs a x hax hx w
theorem Qs(s:aE)(a x:Nat)(hx:x<=s.length)(w:Int)(wh:Bool):
  rk prog aK (xX a wh false (aX s (x:Int) 0 w))=rk prog aK (qJ a wh ((s.drop x).getD 0 0==101||(s.drop x).getD 0 0==69) (aX s (x:Int) 0 w)):=by
 rcases abn x s.length with hlt|hge
 ·obtain⟨c,hd,hg⟩:=drop_at hlt;have e101:((c.toNat:Int)==101)=(c==101):=cY c 101;have e69:((c.toNat:Int)==69)=(c==69):=cY c 69;rw[hd,List.getD_cons_zero];unfold xX qJ ez aX;rw[qo,bH,jB,k6,bC,k6,jB,bz hg,e101]
  cases h:(c==101) with
  |true=>rw[bQ,aA];rfl
  |false=>rw[bH,k6,jB,bz hg,aA,e69];rfl
 ·rw[abJ hge];unfold xX qJ ez aX;rw[qo,bH,jB,k6,bB,aA];rfl
theorem Qt(s:aE)(hs:s.length<=2000)(a x:Nat)(hx:x+1<=s.length)(w:Int)(wh:Bool)(y:Nat)(hy:y=x+1+((s.drop (x+1)).takeWhile aP).length):
  rk prog aK (xX a wh true (aX s (x:Int) 0 w))=rk prog aK (qJ a false ((s.drop y).getD 0 0==101||(s.drop y).getD 0 0==69) (aX s (y:Int) 0 w)):=by
 have hle:=jU (s.drop (x+1)) aP;rw[abB]at hle;have w1:=ca x;have hdg:=uf s (by omega) (x+1) hx 0 w;rw[<-hy]at hdg;rcases abn y s.length with hlt|hge
 ·obtain⟨c,hd,hg⟩:=drop_at hlt;have e101:((c.toNat:Int)==101)=(c==101):=cY c 101;have e69:((c.toNat:Int)==69)=(c==69):=cY c 69;rw[hd,List.getD_cons_zero];unfold xX qJ ez;unfold aX at *;rw[qo,bQ,jB,uO (by rfl),w1,yz,dL hdg (by rfl) (by rfl),jB,k6,bC,k6,jB,bz hg,e101]
  cases h:(c==101) with
  |true=>rw[bQ,aA];rfl
  |false=>rw[bH,k6,jB,bz hg,aA,e69];rfl
 ·rw[abJ hge];unfold xX qJ ez;unfold aX at *;rw[qo,bQ,jB,uO (by rfl),w1,yz,dL hdg (by rfl) (by rfl),jB,k6,bB,aA];rfl
theorem XM(s:aE)(hs:s.length<=2000)(a sg:Nat)(hsg:sg=0\/sg=1)(ha:a+sg<=s.length)(w:Int)(x:Nat)(hxx:x=a+sg+((s.drop (a+sg)).takeWhile aP).length):
  rk prog aK (.at_ 99 1 (aJ 55) (sv 242 (nv a [(62,vb (decide (sg=1)))])) [] [ez,aX s (a:Int) 0 w])=
   rk prog aK (xX a true (decide (gV (s.drop x)≠0)) (aX s (x:Int) 0 w)):=by
 have hle:=jU (s.drop (a+sg)) aP;rw[abB]at hle;have hdg:=uf s (by omega) (a+sg) ha 0 w;rw[<-hxx]at hdg;have hx:x<=s.length:=by omega
 have hh:rk prog aK (.call 148 [V.p 0 0,vi 1] [aX s (x:Int) 0 w])=_:=G9 s (by omega) x 1 hx (by omega) 0 w;have hF:decide (gV (s.drop x)≠0)=((s.drop x).getD 0 0==46&&aP ((s.drop x).getD 1 0)):=by
  rw[Cw];by_cases h46:(s.drop x).getD 0 0=46
  ·cases h:aP ((s.drop x).getD 1 0) with
   |true=>rw[aaR ⟨h46,rfl⟩,aa3 (by omega),beq_iff_eq.2 h46];rfl
   |false=>rw[aaN (by rintro⟨-,h⟩;cases h),Bool.and_false];rfl
  ·rw[aaN (λ h=>h46 h.1),abr.2 h46];rfl
 have w1:=ca a;rw[hF];rcases hsg with rfl|rfl
 ·rw[show decide ((0:Nat)=1)=false from rfl];rw[Nat.add_zero]at hdg;rcases abn x s.length with hlt|hge
  ·obtain⟨c,hd,hg⟩:=drop_at hlt;have Hf:((c.toNat:Int)==46)=(c==46):=cY c 46;rw[hd,List.getD_cons_zero,<-hd];unfold xX ez;unfold aX at *;rw[sD,bH,dL hdg (by rfl) (by rfl),jB,k6,bC,k6,jB,bz hg,Hf]
   cases h:(c==46) with
   |true=>rw[bQ,dL hh (by rfl) (by rfl),aA];rfl
   |false=>rw[bH,aA];rfl
  ·rw[abJ hge];unfold xX ez;unfold aX at *;rw[sD,bH,dL hdg (by rfl) (by rfl),jB,k6,bB,aA];rfl
 ·rw[show decide ((1:Nat)=1)=true from rfl];rcases abn x s.length with hlt|hge
  ·obtain⟨c,hd,hg⟩:=drop_at hlt;have Hf:((c.toNat:Int)==46)=(c==46):=cY c 46;rw[hd,List.getD_cons_zero,<-hd];unfold xX ez;unfold aX at *;rw[sD,bQ,w1,dL hdg (by rfl) (by rfl),jB,k6,bC,k6,jB,bz hg,Hf]
   cases h:(c==46) with
   |true=>rw[bQ,dL hh (by rfl) (by rfl),aA];rfl
   |false=>rw[bH,aA];rfl
  ·rw[abJ hge];unfold xX ez;unfold aX at *;rw[sD,bQ,w1,dL hdg (by rfl) (by rfl),jB,k6,bB,aA];rfl
theorem Zd(s:aE)(hs:s.length<=2000)(a sg:Nat)(hsg:sg=0\/sg=1)(hsgl:(s.drop a).take sg=[]\/(s.drop a).take sg=[43]\/(s.drop a).take sg=[45])(ha:a+sg<=s.length)
  (hnd:¬((s.drop (a+sg)).takeWhile aP=[]/\gV (s.drop (a+sg))=0)) (w:Int):
  ij s a w (UG (s.drop a) sg a) (rk prog aK (.at_ 99 1 (aJ 55) (sv 242 (nv a [(62,vb (decide (sg=1)))])) [] [ez,aX s (a:Int) 0 w])):=by
 have hle:=jU (s.drop (a+sg)) aP;rw[abB]at hle;have hself:=qD (s.drop (a+sg)) aP;have hall:=F7 aP (s.drop (a+sg));rw[XM s hs a sg hsg ha w _ rfl];unfold UG;simp only;rw[List.drop_drop,aaN hnd];generalize hds:(s.drop (a+sg)).takeWhile aP=ds at *;have hd1:(s.drop (a+sg)).drop ds.length=s.drop (a+sg+ds.length):=by rw[List.drop_drop]
 have hd2:(s.drop (a+sg)).drop (ds.length+gV (s.drop (a+sg+ds.length)))=s.drop (a+sg+ds.length+gV (s.drop (a+sg+ds.length))):=by rw[List.drop_drop];congr 1;omega
 rw[hd1,hd2];have hfl:=EH (s.drop (a+sg+ds.length));rw[abB]at hfl;have hel:=Jv (s.drop (a+sg+ds.length+gV (s.drop (a+sg+ds.length))));rw[abB]at hel;generalize hfa:gV (s.drop (a+sg+ds.length))=fa at *;have dbl:∀y:Nat,y=a+(sg+(ds.length+(fa+kR (s.drop (a+sg+ds.length+fa)))))->ij s a w
   (if (et ((s.drop a).take (sg+(ds.length+(fa+kR (s.drop (a+sg+ds.length+fa))))))).2≠0 then .inr ((et ((s.drop a).take (sg+(ds.length+(fa+kR (s.drop (a+sg+ds.length+fa))))))).2,a)
    else rm (s.drop a) (sg+(ds.length+(fa+kR (s.drop (a+sg+ds.length+fa))))) a ⟨3,[],0,(et ((s.drop a).take (sg+(ds.length+(fa+kR (s.drop (a+sg+ds.length+fa))))))).1,a⟩)
   (wY s a y w):=by
  intro y hy;unfold wY;rw[hy,Nat.add_sub_cancel_left];generalize sg+(ds.length+(fa+kR (s.drop (a+sg+ds.length+fa))))=n;generalize et ((s.drop a).take n)=p;by_cases hp:p.2≠0
  ·rw[aaR hp];exact lW s a _ p.2 w hp _
  ·rw[aaN hp,show p.2=0 by omega];exact r9 s a n w _
 by_cases h0:fa=0
 ·-- no fraction
  subst h0;rw[Nat.add_zero]at *;rw[show decide ((0:Nat)≠0)=false from rfl,Qs s a _ (by omega) w true];have hds0:ds≠[]:=by intro e;apply hnd;refine⟨e,?_⟩;rw[e]at hfa;exact hfa
  have htk:(s.drop a).take (sg+ds.length)=(s.drop a).take sg++ds:=by rw[List.take_add,List.drop_drop,<-hself]
  have hpos:0<ds.length:=abR.2 hds0;have hne:(s.drop a).take sg++ds≠[]:=by simp[hds0]
  have hh:((s.drop a).take sg++ds).head?=(s.drop a).head?:=by rw[<-htk,List.head?_take,cE]
  have h10:=Xa ((s.drop a).take sg) ds hsgl (λ c h=>abu.1 hall c h) hne (by rw[<-htk,List.length_take,abB];omega);rw[hh,<-htk]at h10;have hsub:a+sg+ds.length-a=sg+ds.length:=by omega
  generalize hv:iM ((s.drop a).head?==some 45) (dq ds)=v at *;have key:∀(n er:Int),rk prog aK (.call 149 [vs ((s.drop a).take (sg+ds.length))] [])=some (.t [.d (.i .i64 n),.d (.i .i64 er)],[])->
    rk prog aK (qJ a true ((s.drop (a+sg+ds.length)).getD 0 0==101||(s.drop (a+sg+ds.length)).getD 0 0==69) (aX s ((a+sg+ds.length:Nat):Int) 0 w))=D3 s a (a+sg+ds.length) w true n er:=by
   intro n er h;exact JU s hs a (a+sg+ds.length) (by omega) (by omega) w true n er (λ _=>by rw[hsub];exact h) _ rfl
  by_cases hfb:kR (s.drop (a+sg+ds.length))=0
  ·rw[aaR ⟨rfl,hfb⟩];rw[hfb,Nat.add_zero];by_cases h60:60<ds.length
   ·rw[aaR h60]at h10;rw[aaR h60,key 0 4 h10];unfold D3;rw[hfb,aaN (by decide),aaR rfl];exact lW s a _ 4 w (by decide) _
   ·rw[aaN h60]at h10;rw[aaN h60];unfold F8 at h10
    cases hv2:v.2 with
    |false=>
     rw[hv2,aaN (by decide)]at h10;rw[aaR rfl,key 0 5 h10];unfold D3;rw[hfb,aaN (by decide),aaR rfl];exact lW s a _ 5 w (by decide) _
    |true=>
     rw[hv2,aaR rfl]at h10;rw[aaN (by decide),key v.1 0 h10];unfold D3;rw[hfb,aaN (by decide),aaR rfl,aby];exact r9 s a (sg+ds.length) w _
  ·rw[aaN (λ h=>hfb h.2)];have hko:∃n er,rk prog aK (.call 149 [vs ((s.drop a).take (sg+ds.length))] [])=some (.t [.d (.i .i64 n),.d (.i .i64 er)],[]):=by
    rw[h10];by_cases h60:60<ds.length
    ·rw[aaR h60];exact⟨_,_,rfl⟩
    ·rw[aaN h60];unfold F8;split
     ·exact⟨_,_,rfl⟩
     ·exact⟨_,_,rfl⟩
   obtain⟨n,er,h⟩:=hko;rw[key n er h];unfold D3;rw[aaR hfb];exact dbl _ (by omega)
 ·rw[aaN (λ h=>h0 h.1),aa3 h0];have hfe:=Cw (s.drop (a+sg+ds.length));rw[hfa]at hfe;have hcond:(s.drop (a+sg+ds.length)).getD 0 0=46/\aP ((s.drop (a+sg+ds.length)).getD 1 0)=true:=by
   rcases Classical.em ((s.drop (a+sg+ds.length)).getD 0 0=46/\aP ((s.drop (a+sg+ds.length)).getD 1 0)=true)with h|h
   ·exact h
   ·rw[aaN h]at hfe;exact absurd hfe h0
  rw[aaR hcond,List.drop_drop]at hfe;have hlt:a+sg+ds.length+1<=s.length:=by
   rcases abn (a+sg+ds.length) s.length with h|h
   ·omega
   ·rw[abJ h]at hcond;exact absurd hcond.1 (by decide)
  rw[Qt s hs a (a+sg+ds.length) hlt w true (a+sg+ds.length+fa) (by omega)];rw[JU s hs a (a+sg+ds.length+fa) (by omega) (by omega) w false 0 0 (λ h=>by cases h) _ rfl];unfold D3;by_cases hfb:kR (s.drop (a+sg+ds.length+fa))≠0
  ·rw[aaR hfb];exact dbl _ (by omega)
  ·rw[aaN hfb,aaN (show ¬(false=true) by decide)]
   exact dbl _ (by omega)
theorem Wg{s:aE}{a:Nat}{w:Int}{r:OJ}{o o':Option Out}(hw:ij s a w r o)
  (H:∀(T:Tok) (x e w':Int),o=some (.d T.D,[aX s x e w'])->o'=some (.d T.D,[aX s x e w'])):ij s a w r o':=by
 match r,hw with
 | .inr (e,w'),⟨he,x,T,h⟩=>exact⟨he,x,T,H _ _ _ _ h⟩
 | .inl (t,n),h=>exact H _ _ _ _ h
theorem W8(s:aE)(hs:s.length<=2000)(a:Nat)(c:UInt8)(hd:s.drop a=c::s.drop (a+1))(hg:bW s (a:Int)=some c)(ha:a<s.length)
    (hnd:OE (s.drop (a+gW (s.drop a)))=false) (w:Int):ij s a w (oS (s.drop a) a) (rk prog aK (.call 99 [V.p 0 0] [aX s (a:Int) 0 w])):=by
  have hnd':¬((s.drop (a+gW (s.drop a))).takeWhile aP=[]/\gV (s.drop (a+gW (s.drop a)))=0):=λ h=>by
    have:=(Wc _).2 h;rw[hnd]at this;cases this
  have hst:=tJ s [48,120] a (by omega) (by omega) (by decide);have hl:([48,120]:aE).length=2:=rfl;rw[hl,hd,Dd]at hst;have w2:i64.wrap ((a:Int)+2)=((a+2:Nat):Int):=bD;have e43:((c.toNat:Int)==43)=(c==43):=cY c 43;have T4:((c.toNat:Int)==45)=(c==45):=cY c 45;have hsN:gW (s.drop a)=if c=43\/c=45 then 1 else 0:=by rw[hd];rfl
  have h27:∀b:Bool,rk prog aK (.call 99 [V.p 0 0] [aX s (a:Int) 0 w])=
        rk prog aK (.at_ 99 1 (aJ 27) (sv 242 (nv a [(38,vb b)])) [] [ez,aX s (a:Int) 0 w])->
      (b=true↔(gW (s.drop a)=0/\(s.drop a).head?=some 48/\((s.drop a).drop 1).head?=some 120/\(((s.drop a).drop 2).takeWhile ke)≠[]))->
      ij s a w (oS (s.drop a) a) (rk prog aK (.call 99 [V.p 0 0] [aX s (a:Int) 0 w])):=by
    intro b hgo hb;rw[hgo,JS]
    cases b with
    |true=>
      have h:=hb.1 rfl;rw[aaR h];have hlen:a+2<=s.length:=by
        have h3:=h.2.2.2;rcases abn s.length (a+2)with h|h
        · rw[List.drop_drop,abJ (by omega)]at h3;exact absurd rfl h3
        · exact h
      refine Wg (Hc s (by omega) a hlen w) ?_;intro T x e w' h;unfold Tok.D ez at *;unfold aX at *;rw[DY,bQ,DV h (by rfl) (by rfl) (by rfl),aG];rfl
    |false=>
      rw[aaN (λ h=>by have:=hb.2 h;cases this)]
      have hto:rk prog aK (.at_ 99 1 (aJ 27) (sv 242 (nv a [(38,vb false)])) [] [ez,aX s (a:Int) 0 w])=
          rk prog aK (.at_ 99 1 (aJ 55) (sv 242 (nv a [(62,vb (decide (gW (s.drop a)=1)))])) [] [ez,aX s (a:Int) 0 w]):=by
        rw[hsN];unfold ez aX;rw[DY,bH,bz hg,e43];by_cases h43:c=43
        · rw[eH (beq_iff_eq.2 h43),aA,aaR (Or.inl h43)];rfl
        · rw [cX (abr.2 h43), bz hg, aA, T4]
          by_cases h45:c=45
          · rw[aaR (Or.inr h45),beq_iff_eq.2 h45];rfl
          · rw[aaN (by rintro(h|h);exact h43 h;exact h45 h),abr.2 h45];rfl
      rw[hto];have hsle:=FY (s.drop a);rw[abB]at hsle;refine Zd s hs a (gW (s.drop a)) ?_ ?_ (by omega) hnd' w
      · rw [hsN]; split
        · exact Or.inr rfl
        · exact Or.inl rfl
      · rw [hsN, hd]
        by_cases h:c=43\/c=45
        · rw [aaR h]
          rcases h with rfl|rfl
          · exact Or.inr (Or.inl rfl)
          · exact Or.inr (Or.inr rfl)
        · rw[aaN h];exact Or.inl rfl
  have hd1:(s.drop a).drop 1=s.drop (a+1):=by rw[List.drop_drop]
  have hd2:(s.drop a).drop 2=s.drop (a+2):=by rw[List.drop_drop]
  rw[hd1,hd2]at h27;by_cases h0x:c=48/\(s.drop (a+1)).head?=some 120
  · rw [aa3 h0x] at hst
    have hs0:gW (s.drop a)=0:=by rw[hsN,aaN (by rw[h0x.1];decide)]
    have hh0:(s.drop a).head?=some 48:=by rw[hd,h0x.1];rfl
    rcases abn (a+2) s.length with hlt|hge
    · obtain ⟨d, hdd, hgd⟩ := drop_at hlt
      have hx:=Pj d;refine h27 (ke d) ?_ ?_
      · unfold ez aX
        rw[e99,gJ hst,bQ,w2,bC,bz hgd,gF hx,aA]
        cases ke d with
        |true=>rw[aaR rfl,aa3 (Int.natCast_nonneg _)]
        |false=>rw[aaN (by decide)];rfl
      · rw [hdd, List.takeWhile_cons]
        cases ke d with
        |true=>simp[hs0,hh0,h0x.2]
        |false=>simp
    · refine h27 false ?_ ?_
      · unfold ez aX
        rw[e99,gJ hst,bQ,w2,bB,aA]
      · rw[abJ hge];simp
  · rw [abf h0x] at hst
    refine h27 false ?_ ?_
    · unfold ez aX
      rw[e99,gJ hst,bH,aA]
    · constructor
      · intro h;cases h
      · rintro ⟨-, h1, h2, -⟩
        rw[hd]at h1;exact absurd ⟨Option.some.inj h1,h2⟩ h0x
theorem Rw(q:UInt8)(r:aE)(a:Nat):vO q r a=if r.dropWhile (· != q)=[]\/(r.takeWhile (· != q)).contains 10=true then .inr (2,a)else .inl (⟨4,r.takeWhile (· != q),0,0,a⟩,(r.takeWhile (· != q)).length+2):=rfl
def jV(c d:UInt8):Bool:=d != c&&d != 10
theorem yQ(c:UInt8)(hc:c≠10):∀q:aE,
  match q.dropWhile (jV c) with
  | []=>q.dropWhile (· != c)=[]
  |d::_=>(d=10->(q.dropWhile (· != c)=[]\/(q.takeWhile (· != c)).contains 10=true))/\
    (d≠10->q.takeWhile (· != c)=q.takeWhile (jV c)/\q.dropWhile (· != c)≠[]/\(q.takeWhile (· != c)).contains 10=false)
 | []=>rfl
 |x::q=>by
  have ih:=yQ c hc q;rw[List.dropWhile_cons,List.takeWhile_cons,List.dropWhile_cons,List.takeWhile_cons];by_cases hx:x=c
  ·subst hx;have h1:jV x x=false:=by unfold jV;simp
   have h2:(x != x)=false:=by simp
   rw[h1,h2];simp only[Bool.false_eq_true,if_false];refine⟨λ h=>absurd h hc,λ _=>?_⟩;simp
  ·have h2:(x != c)=true:=bne_iff_ne.2 hx;rw[h2];by_cases h10:x=10
   ·subst h10;have h1:jV c 10=false:=by unfold jV;simp
    rw[h1];simp only[Bool.false_eq_true,if_false,if_true];exact⟨λ _=>Or.inr (by simp),λ h=>absurd rfl h⟩
   ·have h1:jV c x=true:=by unfold jV;rw[h2,bne_iff_ne.2 h10];rfl
    rw[h1];simp only[if_true]
    cases hq:q.dropWhile (jV c) with
    |nil=>rw[hq]at ih;exact ih
    |cons d q'=>
     rw[hq]at ih;simp only at ih⊢;refine⟨λ h=>?_,λ h=>?_⟩
     ·rcases ih.1 h with h' | h'
      ·exact Or.inl h'
      ·right;rw[List.contains_cons,h',Bool.or_true]
     ·obtain⟨i1,i2,i3⟩:=ih.2 h;refine⟨by rw[i1],i2,?_⟩;rw[List.contains_cons,i3,Bool.or_false];exact abr.2 (Ne.symm h10)
theorem vP(s:aE)(hs:s.length<=10000)(a:Nat)(c:UInt8)(w:Int):∀(m k:Nat),k+m=s.length->
    rk prog aK (.at_ 46 1 (aJ 622399)
      (sv 194 (nv a [(4,V.d (D.i .u8 (c.toNat:Int))),(6,vi (k:Int))])) [] [ez,aX s (a:Int) 0 w])=
    rk prog aK (.at_ 46 1 (aJ 6389567)
      (sv 194 (nv a [(4,V.d (D.i .u8 (c.toNat:Int))),(6,vi ((k+((s.drop k).takeWhile (jV c)).length:Nat):Int)),(152,vb false)])) [] [ez,aX s (a:Int) 0 w])
  |0,k,h=>by
    unfold ez aX;rw[sC,bB,aA,abJ (by omega)];rfl
  |m+1,k,h=>by
    obtain⟨d,hd,hg⟩:=drop_at (show k<s.length by omega);have ih:=vP s hs a c w m (k+1) (by omega);have w1:=ca k;have ec:((d.toNat:Int) != (c.toNat:Int))=(d != c):=by rw[bne,bne,cY]
    have e10:((d.toNat:Int) != 10)=(d != 10):=by rw[bne,bne,show ((d.toNat:Int)==10)=(d==10)from cY d 10]
    have go:rk prog aK (.at_ 46 1 (aJ 622399)
          (sv 194 (nv a [(4,V.d (D.i .u8 (c.toNat:Int))),(6,vi (k:Int))])) [] [ez,aX s (a:Int) 0 w])=
        rk prog aK (.at_ 46 1 (aJ 6389567)
          (sv 194 (nv a [(4,V.d (D.i .u8 (c.toNat:Int))),(6,vi (k:Int)),(152,vb (jV c d))])) [] [ez,aX s (a:Int) 0 w]):=by
      unfold jV ez aX;rw[sC,bC,bz hg,ec]
      cases hdc:(d != c) with
      |true=>rw[bQ,bz hg,aA,e10];rfl
      |false=>rw[bH,aA];rfl
    rw[go,hd,List.takeWhile_cons]
    cases hp:jV c d with
    |false=>rw[aaN (by decide)];rfl
    |true=>
      rw[aaR rfl,aaT,show k+(((s.drop (k+1)).takeWhile (jV c)).length+1)=k+1+((s.drop (k+1)).takeWhile (jV c)).length by omega,<-ih];unfold ez aX;rw[mH,bQ,w1,aA]
theorem X4(s:aE)(hs:s.length<=10000)(a:Nat)(c:UInt8)(ha:a<s.length)(hc:c=34\/c=39)(w:Int):
  ij s a w (vO c (s.drop (a+1)) a) (rk prog aK (.at_ 46 1 (aJ 65343)
   (sv 194 (nv a [(4,V.d (D.i .u8 (c.toNat:Int))),(118,vb true)])) [] [ez,aX s (a:Int) 0 w])):=by
 have hc10:c≠10:=by rcases hc with rfl|rfl<;>decide
 have w1:=ca a;have hL:=vP s hs a c w (s.length-(a+1)) (a+1) (by omega);have hsp:=yQ c hc10 (s.drop (a+1));have hself:=qD (s.drop (a+1)) (jV c);have hle:=jU (s.drop (a+1)) (jV c);have hdl:(s.drop (a+1)).length=s.length-(a+1):=abB ..;have hsum:((s.drop (a+1)).takeWhile (jV c)).length+((s.drop (a+1)).dropWhile (jV c)).length=(s.drop (a+1)).length:=by
  have:=congrArg List.length (List.takeWhile_append_dropWhile (p:=jV c) (l:=s.drop (a+1)))
  rwa[aaS]at this
 have hat:(s.drop (a+1+((s.drop (a+1)).takeWhile (jV c)).length))=(s.drop (a+1)).dropWhile (jV c):=by
  rw[<-List.drop_drop];have h3:=List.takeWhile_append_dropWhile (p:=jV c) (l:=s.drop (a+1))
  calc (s.drop (a+1)).drop ((s.drop (a+1)).takeWhile (jV c)).length
    = ((s.drop (a+1)).takeWhile (jV c)++(s.drop (a+1)).dropWhile (jV c)).drop ((s.drop (a+1)).takeWhile (jV c)).length:=by rw[h3]
   _=_:=by rw[List.drop_left]
 have go:rk prog aK (.at_ 46 1 (aJ 65343)
   (sv 194 (nv a [(4,V.d (D.i .u8 (c.toNat:Int))),(118,vb true)])) [] [ez,aX s (a:Int) 0 w])=
   rk prog aK (.at_ 46 1 (aJ 622399)
   (sv 194 (nv a [(4,V.d (D.i .u8 (c.toNat:Int))),(6,vi ((a+1:Nat):Int))])) [] [ez,aX s (a:Int) 0 w]):=by
  unfold ez aX;rw[vd,bQ,w1,aA]
 have hf:=mg s (a:Int) 0 w 2 (a:Int);have bad:∀k:Int,ij s a w (.inr (2,a)) (rk prog aK (.at_ 46 1 (aJ 1802047)
   (sv 194 (nv a [(6,vi k),(170,vb true)])) [] [ez,aX s (a:Int) 0 w])):=by
  intro k;refine⟨by decide,(a:Int),⟨0,[],0,0,0⟩,?_⟩;unfold ez;unfold aX at *;rw[qV,bQ,dZ hf (by rfl) (by rfl),aG];rfl
 rw[go,hL,Rw];generalize hu:(s.drop (a+1)).takeWhile (jV c)=u at *
 cases hdw:(s.drop (a+1)).dropWhile (jV c) with
 |nil=>
  rw[hdw]at hsp hsum;rw[aaR (Or.inl hsp)];have hend:a+1+u.length=s.length:=by rw[abp]at hsum;omega
  have to1:rk prog aK (.at_ 46 1 (aJ 6389567)
    (sv 194 (nv a [(4,V.d (D.i .u8 (c.toNat:Int))),(6,vi ((a+1+u.length:Nat):Int)),(152,vb false)])) [] [ez,aX s (a:Int) 0 w])=
    rk prog aK (.at_ 46 1 (aJ 1802047)
    (sv 194 (nv a [(6,vi ((a+1+u.length:Nat):Int)),(170,vb true)])) [] [ez,aX s (a:Int) 0 w]):=by
   unfold ez aX;rw[mH,bH,bM,aA]
  rw[to1];exact bad _
 |cons d rest=>
  rw[hdw]at hsp hat;rw[hdw,aaT]at hsum;simp only at hsp;have hlt:a+1+u.length<s.length:=by omega
  have hgd:bW s ((a+1+u.length:Nat):Int)=some d:=by rw[ct,<-List.head?_drop,hat];rfl
  have e10:((d.toNat:Int)==10)=(d==10):=cY d 10;have to1:rk prog aK (.at_ 46 1 (aJ 6389567)
    (sv 194 (nv a [(4,V.d (D.i .u8 (c.toNat:Int))),(6,vi ((a+1+u.length:Nat):Int)),(152,vb false)])) [] [ez,aX s (a:Int) 0 w])=
    rk prog aK (.at_ 46 1 (aJ 1802047)
    (sv 194 (nv a [(6,vi ((a+1+u.length:Nat):Int)),(170,vb (d==10))])) [] [ez,aX s (a:Int) 0 w]):=by
   unfold ez aX;rw[mH,bH,bp,bz hgd,aA,e10]
  rw[to1];by_cases h10:d=10
  ·rw[aaR (hsp.1 h10),beq_iff_eq.2 h10];exact bad _
  ·obtain⟨i1,i2,i3⟩:=hsp.2 h10;rw[aaN (by rintro(h|h);exact i2 h;rw[i3]at h;cases h),i1,abr.2 h10];have w3:i64.wrap (((a+1+u.length:Nat):Int)+1)=((a+(u.length+2):Nat):Int):=bD;have htk:List.take ((((a+1+u.length:Nat):Int)).toNat-(((a+1:Nat):Int)).toNat) (List.drop (((a+1:Nat):Int)).toNat s)=u:=by rw[abe,abe,Nat.add_sub_cancel_left,<-hself]
   show _=_;unfold ez aX;rw[qV,bH,w1,aN,aN,htk,w3,aG];rfl
theorem vM(s:aE)(hs:s.length<=10000)(a:Nat)(c:UInt8)(hd:s.drop a=c::s.drop (a+1))(ha:a<s.length)(w:Int):∀(m i:Nat),i+m=13->
  ij s a w (if (jP.drop i).contains c=true then .inl (⟨5,[c],0,0,a⟩,1)else .inr (2,a))
   (rk prog aK (.at_ 46 1 (aJ 393023) (sv 194 (nv a [(4,V.d (D.i .u8 (c.toNat:Int))),(7,vi (i:Int))])) [] [ez,aX s (a:Int) 0 w]))
 |0,i,h=>by
  have hf:=mg s (a:Int) 0 w 2 (a:Int);have e:i=13:=by omega
  subst e;rw[aaN (show ¬((jP.drop 13).contains c=true) by simp[jP])];refine⟨by decide,(a:Int),⟨0,[],0,0,0⟩,?_⟩;unfold ez;unfold aX at *;rw[nU,bB (by decide),dZ hf (by rfl) (by rfl),aG];rfl
 |m+1,i,h=>by
  have hi:i<jP.length:=by show i<13;omega
  obtain⟨x,hdx,hgx⟩:=drop_at hi;have hgx:bW [123,125,40,41,91,93,60,62,44,59,58,61,42] (i:Int)=some x:=hgx;have ih:=vM s hs a c hd ha w m (i+1) (by omega);have w1:=ca i;have w2:=ca a;have ex:((x.toNat:Int)==(c.toNat:Int))=(x==c):=cY x c;rw[hdx,List.contains_cons];by_cases hxc:x=c
  ·have htk:List.take ((((a+1:Nat):Int)).toNat-((a:Nat):Int).toNat) (List.drop ((a:Nat):Int).toNat s)=[c]:=by rw[abe,abe,Nat.add_sub_cancel_left,hd];rfl
   rw[hxc,abq,Bool.true_or,aaR rfl];show _=_;unfold ez aX;rw[nU,bC,bz hgx,ex,eH (beq_iff_eq.2 hxc),w2,aN,aN,htk,aG];rfl
  ·rw[abr.2 (Ne.symm hxc),Bool.false_or];have go:rk prog aK (.at_ 46 1 (aJ 393023) (sv 194 (nv a [(4,V.d (D.i .u8 (c.toNat:Int))),(7,vi (i:Int))])) [] [ez,aX s (a:Int) 0 w])=
     rk prog aK (.at_ 46 1 (aJ 393023) (sv 194 (nv a [(4,V.d (D.i .u8 (c.toNat:Int))),(7,vi ((i+1:Nat):Int))])) [] [ez,aX s (a:Int) 0 w]):=by
    unfold ez aX;rw[nU,bC,bz hgx,ex,cX (abr.2 hxc),w1,aA]
   rw[go];exact ih
theorem Yi(s:aE)(hs:s.length<=2000)(a:Nat)(ha:a<s.length)(w:Int):ij s a w (gp (s.drop a) a) (rk prog aK (.call 46 [V.p 0 0] [aX s (a:Int) 0 w])):=by
 obtain⟨c,hd,hg⟩:=drop_at ha;have w1:=ca a;have w2:i64.wrap ((a:Int)+2)=((a+2:Nat):Int):=bD;have e46c:((c.toNat:Int)==46)=(c==46):=cY c 46;have e43:((c.toNat:Int)==43)=(c==43):=cY c 43;have T4:((c.toNat:Int)==45)=(c==45):=cY c 45;have e34:((c.toNat:Int)==34)=(c==34):=cY c 34;have e39:((c.toNat:Int)==39)=(c==39):=cY c 39;have hh:∀{r:OJ} {k:Nat} {o':Option Out},ij s a w r (rk prog aK (.call k [V.p 0 0] [aX s (a:Int) 0 w]))->
   (∀(T:Tok) (x e w':Int),rk prog aK (.call k [V.p 0 0] [aX s (a:Int) 0 w])=some (.d T.D,[aX s x e w'])->o'=some (.d T.D,[aX s x e w']))->ij s a w r o':=λ h H=>Wg h H
 have hto:rk prog aK (.call 46 [V.p 0 0] [aX s (a:Int) 0 w])=
   rk prog aK (.at_ 46 1 (aJ 127) (sv 194 (nv a [(4,V.d (D.i .u8 (c.toNat:Int))),(5,V.d (D.i .u8 ((((s.drop (a+1)).getD 0 0).toNat:Nat):Int)))])) [] [ez,aX s (a:Int) 0 w]):=by
  rcases abn (a+1) s.length with hlt|hge
  ·obtain⟨d,hdd,hgd⟩:=drop_at hlt;rw[hdd,List.getD_cons_zero];unfold ez aX;rw[Hf,bp,bz hg,w1,bC,bz hgd,aA]
  ·rw[abJ hge];unfold ez aX;rw[Hf,bp,bz hg,w1,bB,aA];rfl
 generalize hn:(s.drop (a+1)).getD 0 0=n at hto;have en46:((n.toNat:Int)==46)=(n==46):=cY n 46;have hf:=mg s (a:Int) 0 w 2 (a:Int);have hr1:(s.drop a).getD 1 0=n:=by rw[hd,List.getD_cons_succ];exact hn
 have hr2:(s.drop (a+1)).getD 1 0=(s.drop (a+2)).getD 0 0:=by rw[abG,abG,List.getElem?_drop,List.getElem?_drop]
 have hw:gp (s.drop a) a=gp (c::s.drop (a+1)) a:=by rw[hd]
 rw[hw];unfold gp;simp only;rw[hto];have hl:=Cb c;have hdg:=pd c;have hdn:=pd n
 cases hlt:k9 c with
 |true=>
  rw[aaR rfl,<-hd];refine hh (T1 s (by omega) a (by omega) w) ?_;intro T x e w' h;rw[hlt]at hl;unfold Tok.D ez at *;unfold aX at *;rw[Am,gJ hl,bQ,DV h (by rfl) (by rfl) (by rfl),aG];rfl
 |false=>
  rw[aaN (show ¬(false=true) by decide)];rw[hlt]at hl;have h72:rk prog aK (.at_ 46 1 (aJ 127) (sv 194 (nv a [(4,V.d (D.i .u8 (c.toNat:Int))),(5,V.d (D.i .u8 ((n.toNat:Nat):Int)))])) [] [ez,aX s (a:Int) 0 w])=
    rk prog aK (.at_ 46 1 (aJ 3903) (sv 194 (nv a [(4,V.d (D.i .u8 (c.toNat:Int))),(5,V.d (D.i .u8 ((n.toNat:Nat):Int))),(72,vb (aP c||(c==46&&aP n)))])) [] [ez,aX s (a:Int) 0 w]):=by
   unfold ez aX;rw[Am,gJ hl,bH,gJ hdg]
   cases hdc:aP c with
   |true=>rw[bQ,aA];rfl
   |false=>
    rw[bH,e46c]
    cases h46:(c==46) with
    |true=>rw[bQ,gJ hdn,aA];rfl
    |false=>rw[bH,aA];rfl
  rw[h72];have numOk:OE (s.drop (a+gW (s.drop a)))=false->(aP c=true\/c=43\/c=45\/c=46)->ij s a w (oS (c::s.drop (a+1)) a) (rk prog aK (.call 99 [V.p 0 0] [aX s (a:Int) 0 w])):=by intro h _;rw[<-hd];exact W8 s hs a c hd hg ha h w
  have hsN:gW (s.drop a)=if c=43\/c=45 then 1 else 0:=by rw[hd];rfl
  cases hA:(aP c||(c==46&&aP n)) with
  |true=>
   have hcond:aP c=true\/c=43\/c=45\/c=46:=by
    rw[Bool.or_eq_true,Bool.and_eq_true]at hA;rcases hA with h|⟨h,-⟩
    ·exact Or.inl h
    ·exact Or.inr (Or.inr (Or.inr (by simpa using h)))
   have hns:¬(c=43\/c=45):=by rintro(rfl|rfl)<;>exact absurd hA (by simp[aP])
   have hnd:OE (s.drop (a+gW (s.drop a)))=false:=by
    rw[hsN,aaN hns,Nat.add_zero];unfold OE;rw[hr1,hd,List.getD_cons_zero]
    cases h1:aP c with
    |true=>rfl
    |false=>rw[h1,Bool.false_or]at hA;rw[hA];rfl
   rw[aaR hcond];refine hh (numOk hnd hcond) ?_;intro T x e w' h;unfold Tok.D ez at *;unfold aX at *;rw[xh,bQ,DV h (by rfl) (by rfl) (by rfl),aG];rfl
  |false=>
   have hndig:aP c=false:=by rw[Bool.or_eq_false_iff]at hA;exact hA.1
   have hdot:(c==46&&aP n)=false:=by rw[Bool.or_eq_false_iff]at hA;exact hA.2
   have h83:rk prog aK (.at_ 46 1 (aJ 3903) (sv 194 (nv a [(4,V.d (D.i .u8 (c.toNat:Int))),(5,V.d (D.i .u8 ((n.toNat:Nat):Int))),(72,vb false)])) [] [ez,aX s (a:Int) 0 w])=
     rk prog aK (.at_ 46 1 (aJ 16191) (sv 194 (nv a [(4,V.d (D.i .u8 (c.toNat:Int))),(5,V.d (D.i .u8 ((n.toNat:Nat):Int))),(83,vb (c==43||c==45))])) [] [ez,aX s (a:Int) 0 w]):=by
    unfold ez aX;rw[xh,bH,e43]
    cases h43:(c==43) with
    |true=>rw[bQ,aA];rfl
    |false=>rw[bH,aA,T4];rfl
   rw[h83];have numBad:OE (s.drop (a+gW (s.drop a)))=true->c≠48->oS (c::s.drop (a+1)) a = .inr (2,a):=by intro h h48;have h2:=(Wc _).1 h;rw[<-List.drop_drop]at h2;rw[<-hd,JS,aaN (by rintro⟨-,h,-⟩;rw[hd]at h;exact h48 (Option.some.inj h))];unfold UG;simp only;rw[aaR h2]
   have h48:c≠48:=λ e=>by rw[e]at hndig;exact absurd hndig (by decide)
   cases hS:(c==43||c==45) with
   |true=>
    have hsc:c=43\/c=45:=by simpa using hS
    have hcond:aP c=true\/c=43\/c=45\/c=46:=by rcases hsc with h|h;exact Or.inr (Or.inl h);exact Or.inr (Or.inr (Or.inl h))
    rw[aaR hcond];have hsN1:gW (s.drop a)=1:=by rw[hsN,aaR hsc]
    have go:rk prog aK (.at_ 46 1 (aJ 16191) (sv 194 (nv a [(4,V.d (D.i .u8 (c.toNat:Int))),(5,V.d (D.i .u8 ((n.toNat:Nat):Int))),(83,vb true)])) [] [ez,aX s (a:Int) 0 w])=
      rk prog aK (.at_ 46 1 (aJ 57151) (sv 194 (nv a [(115,vb (!OE (s.drop (a+1))))])) [] [ez,aX s (a:Int) 0 w]):=by
     unfold OE;rw[hn,hr2];unfold ez aX;rw[u7,bQ,gJ hdn]
     cases h1:aP n with
     |true=>rw[bQ,aA];rfl
     |false=>
      rw[bH,en46]
      cases h46:(n==46) with
      |false=>rw[bH,aA];rfl
      |true=>
       rw[bQ,w2];rcases abn (a+2) s.length with hlt|hge
       ·obtain⟨d,hdd,hgd⟩:=drop_at hlt;rw[bC,bz hgd,gJ (pd d),aA,hdd,List.getD_cons_zero];cases aP d<;>rfl
       ·rw[bB,aA,abJ hge];rfl
    rw[go]
    cases hnb:OE (s.drop (a+1)) with
    |false=>
     refine hh (numOk (by rw[hsN1];exact hnb) hcond) ?_;intro T x e w' h;unfold Tok.D ez at *;unfold aX at *;rw[u9,Bool.not_false,bQ,DV h (by rfl) (by rfl) (by rfl),aG];rfl
    |true=>
     rw[numBad (by rw[hsN1];exact hnb) h48];refine⟨by decide,(a:Int),⟨0,[],0,0,0⟩,?_⟩;unfold ez;unfold aX at *;rw[u9,Bool.not_true,bH,dZ hf (by rfl) (by rfl),aG];rfl
   |false=>
    have hns:¬(c=43\/c=45):=by
     intro h;have:(c==43||c==45)=true:=by simpa using h
     rw[hS]at this;cases this
    have h118:rk prog aK (.at_ 46 1 (aJ 16191) (sv 194 (nv a [(4,V.d (D.i .u8 (c.toNat:Int))),(5,V.d (D.i .u8 ((n.toNat:Nat):Int))),(83,vb false)])) [] [ez,aX s (a:Int) 0 w])=
      rk prog aK (.at_ 46 1 (aJ 65343) (sv 194 (nv a [(4,V.d (D.i .u8 (c.toNat:Int))),(118,vb (c==34||c==39))])) [] [ez,aX s (a:Int) 0 w]):=by
     unfold ez aX;rw[u7,bH,e34]
     cases h34:(c==34) with
     |true=>rw[bQ,aA];rfl
     |false=>rw[bH,aA,e39];rfl
    rw[h118];have hsign:∀bq:Bool,bq=(c==34||c==39)->bq=false->
      rk prog aK (.at_ 46 1 (aJ 65343) (sv 194 (nv a [(4,V.d (D.i .u8 (c.toNat:Int))),(118,vb bq)])) [] [ez,aX s (a:Int) 0 w])=
      rk prog aK (.at_ 46 1 (aJ 393023) (sv 194 (nv a [(4,V.d (D.i .u8 (c.toNat:Int))),(7,vi ((0:Nat):Int))])) [] [ez,aX s (a:Int) 0 w]):=by
     intro bq _ h;rw[h];unfold ez aX;rw[vd,bH,aA];rfl
    have hsl:=vM s (by omega) a c hd ha w 13 0 rfl;rw[List.drop_zero]at hsl;by_cases h46:c=46
    ·-- a dot that begins nothing
     have hcond:aP c=true\/c=43\/c=45\/c=46:=Or.inr (Or.inr (Or.inr h46));have hnd:OE (s.drop (a+gW (s.drop a)))=true:=by rw[hsN,aaN hns,Nat.add_zero];unfold OE;rw[hr1,hd,List.getD_cons_zero,hndig,hdot];rfl
     have hq:(c==34||c==39)=false:=by rw[h46];rfl
     rw[aaR hcond,numBad hnd h48,hsign _ rfl hq];rw[aaN (show ¬(jP.contains c=true) by rw[h46];decide)]at hsl;exact hsl
    ·have hcond:¬(aP c=true\/c=43\/c=45\/c=46):=by
      rintro(h|h|h|h)
      ·rw[hndig]at h;cases h
      ·exact hns (Or.inl h)
      ·exact hns (Or.inr h)
      ·exact h46 h
     rw[aaN hcond];by_cases hq:c=34\/c=39
     ·have hqb:(c==34||c==39)=true:=by simpa using hq
      rw[aaR hq,hqb];exact X4 s (by omega) a c ha hq w
     ·have hqb:(c==34||c==39)=false:=by
       cases e:(c==34||c==39) with
       |false=>rfl
       |true=>exact absurd (by simpa using e) hq
      rw[aaN hq,hsign _ rfl hqb];exact hsl
section
variable {f : Task → Option Out}
theorem IE{t:Task}{k j:IntKind}{b:Bool}{l:List D}{n m:Int}{e e' e'':V}{K:Bool->List D->Int->Int->Tr}(h:f t=some (.t [.d (.l b l),.d (.i k n),.d (.i j m)],[])):
  aD f (.call t λ o=>aO o.snd.isEmpty (dI o.fst λ l=>aO (l.length==3) (bG (l.getD 0 e) λ d=>gX d λ x y=>bG (l.getD 1 e') λ d'=>cf k d' λ z=>bG (l.getD 2 e'') λ d''=>cf j d'' λ w=>K x y z w)))=aD f (K b l n m):=by
 rw[cr h];show aD f (cf k (.i k n) λ x=>cf j (.i j m) λ y=>K b l x y)=_;rw[bO,aaR rfl,bO,aaR rfl]
end
theorem P9(s:aE)(hs:s.length<=2000):(lexB s).1.length<=100000:=by
 rcases rL s with⟨l',hg,e⟩|⟨e,w,he,-,-⟩
 ·rw[e];obtain⟨h1,h2⟩:=hg;have hbound:∀(k:Nat) (hk:k<l'.length),k<=l'[k].at_:=by
   intro k
   induction k with
   |zero=>intro _;exact Nat.zero_le _
   |succ k ih=>
    intro hk;have h3:=ih (by omega);have h4:=List.pairwise_iff_getElem.1 h2 k (k+1) (by omega) hk (by omega);omega
  show (l'++[_]).length<=_;rw[aaS,List.length_singleton];rcases Nat.eq_zero_or_pos l'.length with h0|h0
  ·omega
  ·have h3:=hbound (l'.length-1) (by omega)
   have h4:=(h1 _ (List.getElem_mem (show l'.length-1<l'.length by omega))).2.2;omega
 ·rw[he];exact Nat.zero_le _
abbrev V3(b:Bool)(L:List Tok)(o:Ob):Task:=Ge b (zn L) [o]
section
variable {f : Task → Option Out}
theorem G6{a b d:V}{i:Int}{K:Int->Tr}:aD f (ob [a,b,vi i,d][2]? λ v=>bG v λ d=>cf .i64 d λ n=>K n)=aD f (K i):=by rw[bz (a:=vi i) (by rfl),dN,cT]
theorem YQ{a b c:V}{i:Int}{K:Int->Tr}:aD f (ob [a,b,c,vi i][3]? λ v=>bG v λ d=>cf .i64 d λ n=>K n)=aD f (K i):=by rw[bz (a:=vi i) (by rfl),dN,cT]
end
theorem DU(s:aE)(a x:Nat)(b:Bool)(L:List Tok)(hL:L.length<=100000)(T:Tok)(x':Int)
  (h1:rk prog aK (.call 45 [V.p 0 0] [aX s (a:Int) 0 0])=some (.t [],[aX s (x:Int) 0 0]))
  (h2:rk prog aK (.call 46 [V.p 0 0] [aX s (x:Int) 0 0])=some (.d T.D,[aX s x' 0 0])):
  rk prog aK (V3 b L (aX s (a:Int) 0 0))=if T.kind=6 then some (pJ (L++[T],0,0))else rk prog aK (V3 false (L++[T]) (aX s x' 0 0)):=by
 have hsn:=RE L T;have hemp:(L++[T]).isEmpty=false:=by cases L<;>rfl
 unfold pJ V3;simp only;rw[hemp];unfold Tok.D at h2 hsn;unfold aX at *;rw[rC,dZ h1 (by rfl) (by rfl),G6,eN rfl,DV h2 (by rfl) (by rfl) (by rfl),G6,eN rfl,RC,aQ,uO (by cases b<;>rfl),aN (by rw[Vc];omega)];show aD _ (cf .i64 (D.i .i64 (T.kind:Int)) _)=_;rw[cT];show aD _ (aV ((T.kind:Int)==6) (Tr.ret (V.t [vl (b&&false) (zn L++[D.g [D.i .i64 (T.kind:Int),D.s T.text,D.i .i64 T.n,D.i .u64 (T.d:Int),D.i .i64 (T.at_:Int)]]),vi 0,vi 0],[]))
  (aR (Ge (b&&false) (zn L++[D.g [D.i .i64 (T.kind:Int),D.s T.text,D.i .i64 T.n,D.i .u64 (T.d:Int),D.i .i64 (T.at_:Int)]]) [aC (dF s x' 0 0)])))=_
 rw[hsn,Bool.and_false];by_cases hk:T.kind=6
 ·rw[aaR hk,bM,aG];rfl
 ·rw[aaN hk,bp,aA]
theorem TY(s:aE)(a:Nat)(b:Bool)(L:List Tok)(x e:Int)(w':Nat)(he:e≠0)
  (h1:rk prog aK (.call 45 [V.p 0 0] [aX s (a:Int) 0 0])=some (.t [],[aX s x e (w':Int)])):
  rk prog aK (V3 b L (aX s (a:Int) 0 0))=some (pJ ([],e,w')):=by
 unfold V3;unfold aX at *;rw[rC,dZ h1 (by rfl) (by rfl),G6,fj he,G6,YQ,aG];rfl
theorem TZ(s:aE)(a x:Nat)(b:Bool)(L:List Tok)(T:Tok)(x' e:Int)(w':Nat)(he:e≠0)
  (h1:rk prog aK (.call 45 [V.p 0 0] [aX s (a:Int) 0 0])=some (.t [],[aX s (x:Int) 0 0]))
  (h2:rk prog aK (.call 46 [V.p 0 0] [aX s (x:Int) 0 0])=some (.d T.D,[aX s x' e (w':Int)])):
  rk prog aK (V3 b L (aX s (a:Int) 0 0))=some (pJ ([],e,w')):=by
 unfold V3;unfold Tok.D at h2;unfold aX at *;rw[rC,dZ h1 (by rfl) (by rfl),G6,eN rfl,DV h2 (by rfl) (by rfl) (by rfl),G6,fj he,G6,YQ,aG];rfl
theorem Ai(s:aE)(hs:s.length<=2000):∀(f a:Nat) (b:Bool) (L:List Tok),s.length-a<f->a<=s.length->L.length<=a->
  rk prog aK (V3 b L (aX s (a:Int) 0 0))=some (pJ (oe f (s.drop a) a L))
 |0,a,b,L,h,_,_=>by omega
 |f+1,a,b,L,h,ha,hL=>by
  have hlen:(s.drop a).length=s.length-a:=abB ..;have hk:=tF (s.drop a).length (s.drop a) 0;have hsk:=DW s (by omega) 0 a (s.drop a).length 0 (by omega) (by omega);have h45:rk prog aK (.call 45 [V.p 0 0] [aX s (a:Int) 0 0])=rk prog aK (we (aX s (a:Int) 0 0)):=by unfold we aX;rw[T4,aA]
  unfold oe;rw[Nat.add_zero]at hsk;generalize fT (s.drop a).length (s.drop a) 0=K at *;obtain⟨k,bb⟩:=K;simp only at hk
  cases bb with
  |false=>exact TY s a b L _ 2 (a+k) (by decide) (h45.trans hsk)
  |true=>
   have h1:rk prog aK (.call 45 [V.p 0 0] [aX s (a:Int) 0 0])=some (.t [],[aX s ((a+k:Nat):Int) 0 0]):=h45.trans hsk;simp only;by_cases he:(s.drop a).length<=k
   ·rw[aaR he];have e1:a+(s.drop a).length=s.length:=by omega
    have e2:a+k=s.length:=by omega
    have h2:rk prog aK (.call 46 [V.p 0 0] [aX s ((a+k:Nat):Int) 0 0])=some (.d (Tok.D ⟨6,[],0,0,s.length⟩),[aX s ((a+k:Nat):Int) 0 0]):=by rw[e2];unfold aX Tok.D;rw[Hf,bM rfl,aG];rfl
    rw[e1,DU s a (a+k) b L (by omega) ⟨6,[],0,0,s.length⟩ _ h1 h2,aaR rfl]
   ·rw[aaN he];have hw:=Yi s hs (a+k) (by omega) 0;have hok:=L8 (s.drop (a+k)) (a+k);rw[List.drop_drop];generalize gp (s.drop (a+k)) (a+k)=W at *
    match W,hw,hok with
    | .inr (e,w'),⟨hne,x',T,h2⟩,hok=>exact TZ s a (a+k) b L T x' e w' hne h1 h2
    | .inl (t,n),h2,hok=>
     have h2:rk prog aK (.call 46 [V.p 0 0] [aX s ((a+k:Nat):Int) 0 0])=some (.d t.D,[aX s ((a+k+n:Nat):Int) 0 0]):=h2;obtain⟨-,i1,i2,i3,-⟩:=hok;rw[abB]at i2;simp only;rw[DU s a (a+k) b L (by omega) t _ h1 h2,aaN i3,List.drop_drop,<-aby];exact Ai s hs f (a+k+n) false (L++[t]) (by omega) (by omega) (by rw[aaS,List.length_singleton];omega)
theorem W6(s:aE)(hs:s.length<=2000):rk prog aK (.call 20 [vs s] [])=some (pJ (lexB s)):=by unfold lexB;rw[e20,bB,aA,cE];exact Ai s hs (s.length+1) 0 true [] (by omega) (by omega) (by simp)
theorem y28(s:aE):EQ bT (.call 28 [vs s] []) (cV (.call 57 [vs s,vs [34]] []) λ a=>aB a λ b=>aV b (dP (1+s.length) (dP (([39]++s).length+1) (.ret (vs ([39]++s++[39]),[])))) (dP (1+s.length) (dP (([34]++s).length+1) (.ret (vs ([34]++s++[34]),[]))))):=aF
theorem y23(k n u:Int)(s:aE)(b:Bool)(l:List D):EQ bT (.call 23 [.d (.g [.i .i64 k,.i .i64 n,.i .u64 u,.s s,.l b l])] []) (aV (k==1) (cV (.call 49 [vi n,vi 10] []) λ a=>aS a λ c => .ret (vs c,[])) (aV (k==2) (cV (.call 50 [vu u] []) λ e=>aS e λ f => .ret (vs f,[])) (aV (k==3) (cV (.call 28 [vs s] []) λ h=>aS h λ j => .ret (vs j,[])) (aV (k==4) (.ret (vs s,[])) (aV (k==5) (cV (.call 52 [vl b l] []) λ m=>aL m λ o p=>cV (.call 51 [vl o p,vs [44,32]] []) λ q=>aS q λ r=>dP (1+r.length) (dP (([91]++r).length+1) (.ret (vs ([91]++r++[93]),[])))) (cV (.call 52 [vl b l] []) λ t=>aL t λ v w=>aR (K6 0 true v [] w []))))))):=aF
theorem y52(b:Bool)(l:List D):EQ bT (.call 52 [vl b l] []) (aR (KA (l.length:Int) 0 true b [] l [])):=aF
theorem y22(k n u:Int)(s:aE)(b:Bool)(l:List D):EQ bT (.call 22 [.d (.g [.i .i64 k,.i .i64 n,.i .u64 u,.s s,.l b l])] []) (aV (k==1) (cV (.call 47 [vi n] []) λ a=>aS a λ c => .ret (vs c,[])) (aV (k==2) (cV (.call 48 [vu u] []) λ e=>aS e λ f => .ret (vs f,[])) (aV (k==3) (aR (LA 0 [aC (fX s k n u b l)])) (aV (k==4) (.ret (vs s,[])) (aV (k==5) (aR (KS [91] 0 [aC (fX s k n u b l)])) (aR (K7 [123] 0 [aC (fX s k n u b l)]))))))):=aF
theorem y59(h:Bool)(id r:Int)(t nm:aE)(hi:Bool)(k n u:Int)(s:aE)(b:Bool)(l:List D):EQ bT (.call 59 [.d (.g [.b h,.i .i64 id,.i .i64 r,.s t,.s nm,.b hi,.i .i64 k,.i .i64 n,.i .u64 u,.s s,.l b l])] []) (aV h (cV (.call 49 [vi id,vi 10] []) λ a=>aS a λ c=>dP (c.length+2) (aR (LD (c++[58,32]) [aC (mQ t nm s id r k n u h hi b l)]))) (aR (LD [] [aC (mQ t nm s id r k n u h hi b l)]))):=aF
theorem y61(h:Bool)(id r:Int)(t nm:aE)(hi:Bool)(k n u:Int)(s:aE)(b:Bool)(l:List D):EQ bT (.call 61 [.d (.g [.b h,.i .i64 id,.i .i64 r,.s t,.s nm,.b hi,.i .i64 k,.i .i64 n,.i .u64 u,.s s,.l b l])] []) (aV h (cV (.call 47 [vi id] []) λ a=>aS a λ c=>dP (c.length+2) (aR (LF (c++[58,32]) [aC (mQ t nm s id r k n u h hi b l)]))) (aR (LF [] [aC (mQ t nm s id r k n u h hi b l)]))):=aF
theorem aba(b:Bool)(l:List D):EQ bT (.call 124 [vl b l] []) (aR (Kx (l.length:Int) 0 true b [] l [])):=aF
theorem abb(b:Bool)(l:List D):EQ bT (.call 125 [vl b l] []) (aR (Lp [] 0 b l [])):=aF
theorem y62(nm:aE)(ow:Bool)(ret:aE)(ab:Bool)(al:List D)(tb:Bool)(tl:List D):EQ bT (.call 62 [.d (.g [.s nm,.b ow,.s ret,.l ab al,.l tb tl])] []) (aV ow (aR (LG [32,32,111,110,101,119,97,121,32] [aC (zl nm ret ow ab tb al tl)])) (aR (LG [32,32] [aC (zl nm ret ow ab tb al tl)]))):=aF
theorem y31(kd:Int)(nm ty:aE)(ck cn cu:Int)(cs:aE)(cb:Bool)(cl:List D)(fb:Bool)(fl:List D)(mb:Bool)(ml:List D)(ex:aE)(tb:Bool)(tl:List D):EQ bT (.call 31 [.d (.g [.i .i64 kd,.s nm,.s ty,.i .i64 ck,.i .i64 cn,.i .u64 cu,.s cs,.l cb cl,.l fb fl,.l mb ml,.s ex,.l tb tl])] []) (eC [.s [],.s [116,121,112,101,100,101,102,32],.s [101,110,117,109,32],.s [99,111,110,115,116,32],.s [115,116,114,117,99,116,32],.s [117,110,105,111,110,32],.s [101,120,99,101,112,116,105,111,110,32],.s [115,101,114,118,105,99,101,32]] kd 1 0 λ a=>fJ a λ b=>aV (kd==1) (dP (b.length+ty.length) (dP ((b++ty).length+1) (dP ((b++ty++[32]).length+nm.length) (dP ((b++ty++[32]++nm).length+1) (.ret (vs (b++ty++[32]++nm++[10]),[])))))) (aV (kd==3) (dP (b.length+ty.length) (dP ((b++ty).length+1) (dP ((b++ty++[32]).length+nm.length) (dP ((b++ty++[32]++nm).length+3) (cV (.call 22 [.d (.g [.i .i64 ck,.i .i64 cn,.i .u64 cu,.s cs,.l cb cl])] []) λ c=>aS c λ e=>dP ((b++ty++[32]++nm++[32,61,32]).length+e.length) (dP ((b++ty++[32]++nm++[32,61,32]++e).length+1) (.ret (vs (b++ty++[32]++nm++[32,61,32]++e++[10]),[])))))))) (dP (b.length+nm.length) (aV (!ex==[]) (dP ((b++nm).length+9) (dP ((b++nm++[32,101,120,116,101,110,100,115,32]).length+ex.length) (aR (LB (b++nm++[32,101,120,116,101,110,100,115,32]++ex) [aC (dp nm ty cs ex kd ck cn cu cb fb mb tb cl fl ml tl)])))) (aR (LB (b++nm) [aC (dp nm ty cs ex kd ck cn cu cb fb mb tb cl fl ml tl)])))))):=aF
theorem y13(ib:Bool)(il:List D)(sb:Bool)(sl:List D)(db:Bool)(dl:List D):EQ bT (.call 13 [.d (.g [.l ib il,.l sb sl,.l db dl])] []) (aR (La [] 0 [aC (fI ib sb db il sl dl)])):=aF
theorem uS(b0:Bool)(l1:List D)(b2:Bool)(l3:List D)(n4:Int):EQ bT (K6 n4 b0 b2 l1 l3 []) (aV (decide (i64.wrap (n4+1)<(l3.length:Int))) (eC l3 n4 1 0 λ a=>fJ a λ b=>dP (b.length+2) (eC l3 (i64.wrap (n4+1)) 1 0 λ c=>fJ c λ e=>dP ((b++[58,32]).length+e.length) (aO (bA 1 l1) (aO (b0||true) (aO (decide (l1.length+1<=4294967296)) (aR (K6 (i64.wrap (n4+2)) (b0&&false) b2 (l1++[.s (b++[58,32]++e)]) l3 []))))))) (cV (.call 51 [vl b0 l1,vs [44,32]] []) λ f=>aS f λ g=>dP (1+g.length) (dP (([123]++g).length+1) (.ret (vs ([123]++g++[125]),[]))))):=aF
theorem GK(b0:Bool)(l1:List D)(b2:Bool)(l3:List D)(n4 n5:Int):EQ bT (KA n4 n5 b0 b2 l1 l3 []) (aV (decide (n5<n4)) (eL l3 n5 5 λ a=>aO ([.d (gD 5 0 a 0),.d (gD 5 0 a 1),.d (gD 5 0 a 2),.d (gD 5 0 a 3),.d (gD 5 0 a 4)].all V.one) (cV (.call 23 [.d (.g [gD 5 0 a 0,gD 5 0 a 1,gD 5 0 a 2,gD 5 0 a 3,gD 5 0 a 4])] []) λ b=>aS b λ c=>aO (bA 1 l1) (aO (b0||true) (aO (decide (l1.length+1<=4294967296)) (aR (KA n4 (i64.wrap (n5+1)) (b0&&false) b2 (l1++[.s c]) l3 [])))))) (.ret (vl b0 l1,[]))):=aF
theorem qg(n0 n1 n2 n3:Int)(l4:aE)(b5:Bool)(l6:List D):EQ bT (LA n0 [aC (fX l4 n1 n2 n3 b5 l6)]) (aV (decide (n0<(l4.length:Int))) (ob (bW l4 n0) λ a=>aV ((a.toNat:Int)==34) (dP (1+l4.length) (dP (([39]++l4).length+1) (.ret (vs ([39]++l4++[39]),[])))) (aR (LA (i64.wrap (n0+1)) [aC (fX l4 n1 n2 n3 b5 l6)]))) (dP (1+l4.length) (dP (([34]++l4).length+1) (.ret (vs ([34]++l4++[34]),[]))))):=aF
theorem tU(l0:aE)(n1 n2 n3 n4:Int)(l5:aE)(b6:Bool)(l7:List D):EQ bT (KS l0 n1 [aC (fX l5 n2 n3 n4 b6 l7)]) (aV (decide (n1<(l7.length:Int))) (aV (decide (n1>0)) (dP (l0.length+2) (aR (KJ (l0++[44,32]) n1 [aC (fX l5 n2 n3 n4 b6 l7)]))) (aR (KJ l0 n1 [aC (fX l5 n2 n3 n4 b6 l7)]))) (dP (l0.length+1) (.ret (vs (l0++[93]),[])))):=aF
theorem zf(l0:aE)(n1 n2 n3 n4:Int)(l5:aE)(b6:Bool)(l7:List D):EQ bT (K7 l0 n1 [aC (fX l5 n2 n3 n4 b6 l7)]) (aV (decide (i64.wrap (n1+1)<(l7.length:Int))) (aV (decide (n1>0)) (dP (l0.length+2) (aR (K0 (l0++[44,32]) n1 [aC (fX l5 n2 n3 n4 b6 l7)]))) (aR (K0 l0 n1 [aC (fX l5 n2 n3 n4 b6 l7)]))) (dP (l0.length+1) (.ret (vs (l0++[125]),[])))):=aF
theorem Tm(l0:aE)(b1:Bool)(n2 n3:Int)(l4 l5:aE)(b6:Bool)(n7 n8 n9:Int)(l10:aE)(b11:Bool)(l12:List D):EQ bT (LD l0 [aC (mQ l4 l5 l10 n2 n3 n7 n8 n9 b1 b6 b11 l12)]) (aV (n3==1) (dP (l0.length+9) (aR (Gg (l0++[114,101,113,117,105,114,101,100,32]) [aC (mQ l4 l5 l10 n2 n3 n7 n8 n9 b1 b6 b11 l12)]))) (aV (n3==2) (dP (l0.length+9) (aR (Gg (l0++[111,112,116,105,111,110,97,108,32]) [aC (mQ l4 l5 l10 n2 n3 n7 n8 n9 b1 b6 b11 l12)]))) (aR (Gg l0 [aC (mQ l4 l5 l10 n2 n3 n7 n8 n9 b1 b6 b11 l12)])))):=aF
theorem Tp(l0:aE)(b1:Bool)(n2 n3:Int)(l4 l5:aE)(b6:Bool)(n7 n8 n9:Int)(l10:aE)(b11:Bool)(l12:List D):EQ bT (LF l0 [aC (mQ l4 l5 l10 n2 n3 n7 n8 n9 b1 b6 b11 l12)]) (aV (n3==1) (dP (l0.length+9) (aR (Gh (l0++[114,101,113,117,105,114,101,100,32]) [aC (mQ l4 l5 l10 n2 n3 n7 n8 n9 b1 b6 b11 l12)]))) (aV (n3==2) (dP (l0.length+9) (aR (Gh (l0++[111,112,116,105,111,110,97,108,32]) [aC (mQ l4 l5 l10 n2 n3 n7 n8 n9 b1 b6 b11 l12)]))) (aR (Gh l0 [aC (mQ l4 l5 l10 n2 n3 n7 n8 n9 b1 b6 b11 l12)])))):=aF
theorem BP(b0:Bool)(l1:List D)(b2:Bool)(l3:List D)(n4 n5:Int):EQ bT (Kx n4 n5 b0 b2 l1 l3 []) (aV (decide (n5<n4)) (eL l3 n5 11 λ a=>aO ([.d (gD 11 0 a 0),.d (gD 11 0 a 1),.d (gD 11 0 a 2),.d (gD 11 0 a 3),.d (gD 11 0 a 4),.d (gD 11 0 a 5),.d (gD 11 0 a 6),.d (gD 11 0 a 7),.d (gD 11 0 a 8),.d (gD 11 0 a 9),.d (gD 11 0 a 10)].all V.one) (cV (.call 59 [.d (.g [gD 11 0 a 0,gD 11 0 a 1,gD 11 0 a 2,gD 11 0 a 3,gD 11 0 a 4,gD 11 0 a 5,gD 11 0 a 6,gD 11 0 a 7,gD 11 0 a 8,gD 11 0 a 9,gD 11 0 a 10])] []) λ b=>aS b λ c=>aO (bA 1 l1) (aO (b0||true) (aO (decide (l1.length+1<=4294967296)) (aR (Kx n4 (i64.wrap (n5+1)) (b0&&false) b2 (l1++[.s c]) l3 [])))))) (cV (.call 51 [vl b0 l1,vs [44,32]] []) λ e=>aS e λ f => .ret (vs f,[]))):=aF
theorem BQ(b0:Bool)(l1:List D)(l2:aE)(n3:Int):EQ bT (Lp l2 n3 b0 l1 []) (aV (decide (n3<(l1.length:Int))) (aV (decide (n3>0)) (dP (l2.length+2) (aR (Lf (l2++[44,32]) n3 b0 l1 []))) (aR (Lf l2 n3 b0 l1 []))) (.ret (vs l2,[]))):=aF
theorem Ts(l0 l1:aE)(b2:Bool)(l3:aE)(b4:Bool)(l5:List D)(b6:Bool)(l7:List D):EQ bT (LG l0 [aC (zl l1 l3 b2 b4 b6 l5 l7)]) (dP (l0.length+l3.length) (dP ((l0++l3).length+1) (dP ((l0++l3++[32]).length+l1.length) (dP ((l0++l3++[32]++l1).length+1) (cV (.call 125 [vl b4 l5] []) λ o0=>aS o0 λ l2=>dP ((l0++l3++[32]++l1++[40]).length+l2.length) (dP ((l0++l3++[32]++l1++[40]++l2).length+1) (aV (decide ((l7.length:Int)>0)) (dP ((l0++l3++[32]++l1++[40]++l2++[41]).length+9) (cV (.call 125 [vl b6 l7] []) λ o3=>aS o3 λ l5=>dP ((l0++l3++[32]++l1++[40]++l2++[41]++Xw).length+l5.length) (dP ((l0++l3++[32]++l1++[40]++l2++[41]++Xw++l5).length+1) (aR (SA (l0++l3++[32]++l1++[40]++l2++[41]++Xw++l5++[41]) []))))) (aR (SA (l0++l3++[32]++l1++[40]++l2++[41]) []))))))))):=aF
theorem OA(l0:aE)(n1:Int)(l2 l3:aE)(n4 n5 n6:Int)(l7:aE)(b8:Bool)(l9:List D)(b10:Bool)(l11:List D)(b12:Bool)(l13:List D)(l14:aE)(b15:Bool)(l16:List D):EQ bT (LB l0 [aC (dp l2 l3 l7 l14 n1 n4 n5 n6 b8 b10 b12 b15 l9 l11 l13 l16)]) (dP (l0.length+3) (aR (K2 (l0++[32,123,10]) 0 [aC (dp l2 l3 l7 l14 n1 n4 n5 n6 b8 b10 b12 b15 l9 l11 l13 l16)]))):=aF
theorem Gz(l0:aE)(n1:Int)(b2:Bool)(l3:List D)(b4:Bool)(l5:List D)(b6:Bool)(l7:List D):EQ bT (La l0 n1 [aC (fI b2 b4 b6 l3 l5 l7)]) (aV (decide (n1<(l3.length:Int))) (dP (l0.length+9) (eC l3 n1 1 0 λ a=>fJ a λ b=>dP ((l0++Xx).length+b.length) (dP ((l0++Xx++b).length+2) (aR (La (l0++Xx++b++[34,10]) (i64.wrap (n1+1)) [aC (fI b2 b4 b6 l3 l5 l7)]))))) (aR (Lb l0 0 [aC (fI b2 b4 b6 l3 l5 l7)]))):=aF
theorem ze(l0:aE)(n1 n2 n3 n4:Int)(l5:aE)(b6:Bool)(l7:List D):EQ bT (KJ l0 n1 [aC (fX l5 n2 n3 n4 b6 l7)]) (eL l7 n1 5 λ a=>cV (.call 22 [.d (.g [gD 5 0 a 0,gD 5 0 a 1,gD 5 0 a 2,gD 5 0 a 3,gD 5 0 a 4])] []) λ b=>aS b λ c=>dP (l0.length+c.length) (aR (KS (l0++c) (i64.wrap (n1+1)) [aC (fX l5 n2 n3 n4 b6 l7)]))):=aF
theorem I8(l0:aE)(n1 n2 n3 n4:Int)(l5:aE)(b6:Bool)(l7:List D):EQ bT (K0 l0 n1 [aC (fX l5 n2 n3 n4 b6 l7)]) (eL l7 n1 5 λ a=>cV (.call 22 [.d (.g [gD 5 0 a 0,gD 5 0 a 1,gD 5 0 a 2,gD 5 0 a 3,gD 5 0 a 4])] []) λ b=>aS b λ c=>dP (l0.length+c.length) (dP ((l0++c).length+2) (eL l7 (i64.wrap (n1+1)) 5 λ e=>cV (.call 22 [.d (.g [gD 5 0 e 0,gD 5 0 e 1,gD 5 0 e 2,gD 5 0 e 3,gD 5 0 e 4])] []) λ f=>aS f λ h=>dP ((l0++c++[58,32]).length+h.length) (aR (K7 (l0++c++[58,32]++h) (i64.wrap (n1+2)) [aC (fX l5 n2 n3 n4 b6 l7)]))))):=aF
theorem Tn(l0:aE)(b1:Bool)(n2 n3:Int)(l4 l5:aE)(b6:Bool)(n7 n8 n9:Int)(l10:aE)(b11:Bool)(l12:List D):EQ bT (Gg l0 [aC (mQ l4 l5 l10 n2 n3 n7 n8 n9 b1 b6 b11 l12)]) (dP (l4.length+1) (dP ((l4++[32]).length+l5.length) (dP (l0.length+(l4++[32]++l5).length) (aV b6 (cV (.call 23 [.d (.g [.i .i64 n7,.i .i64 n8,.i .u64 n9,.s l10,.l b11 l12])] []) λ a=>aS a λ c=>dP (3+c.length) (dP ((l0++(l4++[32]++l5)).length+([32,61,32]++c).length) (.ret (vs (l0++(l4++[32]++l5)++([32,61,32]++c)),[])))) (.ret (vs (l0++(l4++[32]++l5)),[])))))):=aF
theorem Tq(l0:aE)(b1:Bool)(n2 n3:Int)(l4 l5:aE)(b6:Bool)(n7 n8 n9:Int)(l10:aE)(b11:Bool)(l12:List D):EQ bT (Gh l0 [aC (mQ l4 l5 l10 n2 n3 n7 n8 n9 b1 b6 b11 l12)]) (dP (l0.length+l4.length) (dP ((l0++l4).length+1) (dP ((l0++l4++[32]).length+l5.length) (aV b6 (dP ((l0++l4++[32]++l5).length+3) (cV (.call 22 [.d (.g [.i .i64 n7,.i .i64 n8,.i .u64 n9,.s l10,.l b11 l12])] []) λ a=>aS a λ c=>dP ((l0++l4++[32]++l5++[32,61,32]).length+c.length) (.ret (vs (l0++l4++[32]++l5++[32,61,32]++c),[])))) (.ret (vs (l0++l4++[32]++l5),[])))))):=aF
theorem Gy(b0:Bool)(l1:List D)(l2:aE)(n3:Int):EQ bT (Lf l2 n3 b0 l1 []) (eL l1 n3 11 λ a=>cV (.call 61 [.d (.g [gD 11 0 a 0,gD 11 0 a 1,gD 11 0 a 2,gD 11 0 a 3,gD 11 0 a 4,gD 11 0 a 5,gD 11 0 a 6,gD 11 0 a 7,gD 11 0 a 8,gD 11 0 a 9,gD 11 0 a 10])] []) λ b=>aS b λ c=>dP (l2.length+c.length) (aR (Lp (l2++c) (i64.wrap (n3+1)) b0 l1 []))):=aF
theorem GN(l0:aE):EQ bT (SA l0 []) (dP (l0.length+2) (.ret (vs (l0++[44,10]),[]))):=aF
theorem zg(l0:aE)(n1 n2:Int)(l3 l4:aE)(n5 n6 n7:Int)(l8:aE)(b9:Bool)(l10:List D)(b11:Bool)(l12:List D)(b13:Bool)(l14:List D)(l15:aE)(b16:Bool)(l17:List D):EQ bT (K2 l0 n1 [aC (dp l3 l4 l8 l15 n2 n5 n6 n7 b9 b11 b13 b16 l10 l12 l14 l17)]) (aV (decide (n1<(l14.length:Int))) (dP (l0.length+2) (eC l14 n1 3 0 λ a=>fJ a λ b=>dP ((l0++[32,32]).length+b.length) (eC l14 n1 3 1 λ c=>jz c λ e=>aV e (dP ((l0++[32,32]++b).length+3) (eC l14 n1 3 2 λ f=>cf .i64 f λ g=>cV (.call 47 [vi g] []) λ h=>aS h λ j=>dP ((l0++[32,32]++b++[32,61,32]).length+j.length) (aR (KT (l0++[32,32]++b++[32,61,32]++j) n1 [aC (dp l3 l4 l8 l15 n2 n5 n6 n7 b9 b11 b13 b16 l10 l12 l14 l17)])))) (aR (KT (l0++[32,32]++b) n1 [aC (dp l3 l4 l8 l15 n2 n5 n6 n7 b9 b11 b13 b16 l10 l12 l14 l17)]))))) (aR (K3 l0 0 [aC (dp l3 l4 l8 l15 n2 n5 n6 n7 b9 b11 b13 b16 l10 l12 l14 l17)]))):=aF
theorem GA(l0:aE)(n1:Int)(b2:Bool)(l3:List D)(b4:Bool)(l5:List D)(b6:Bool)(l7:List D):EQ bT (Lb l0 n1 [aC (fI b2 b4 b6 l3 l5 l7)]) (aV (decide (n1<(l5.length:Int))) (dP (l0.length+10) (eC l5 n1 2 0 λ a=>fJ a λ b=>dP ((l0++P5).length+b.length) (dP ((l0++P5++b).length+1) (eC l5 n1 2 1 λ c=>fJ c λ e=>dP ((l0++P5++b++[32]).length+e.length) (dP ((l0++P5++b++[32]++e).length+1) (aR (Lb (l0++P5++b++[32]++e++[10]) (i64.wrap (n1+1)) [aC (fI b2 b4 b6 l3 l5 l7)]))))))) (aR (K8 l0 0 [aC (fI b2 b4 b6 l3 l5 l7)]))):=aF
theorem Dm(l0:aE)(n1 n2:Int)(l3 l4:aE)(n5 n6 n7:Int)(l8:aE)(b9:Bool)(l10:List D)(b11:Bool)(l12:List D)(b13:Bool)(l14:List D)(l15:aE)(b16:Bool)(l17:List D):EQ bT (KT l0 n1 [aC (dp l3 l4 l8 l15 n2 n5 n6 n7 b9 b11 b13 b16 l10 l12 l14 l17)]) (dP (l0.length+2) (aR (K2 (l0++[44,10]) (i64.wrap (n1+1)) [aC (dp l3 l4 l8 l15 n2 n5 n6 n7 b9 b11 b13 b16 l10 l12 l14 l17)]))):=aF
theorem zh(l0:aE)(n1 n2:Int)(l3 l4:aE)(n5 n6 n7:Int)(l8:aE)(b9:Bool)(l10:List D)(b11:Bool)(l12:List D)(b13:Bool)(l14:List D)(l15:aE)(b16:Bool)(l17:List D):EQ bT (K3 l0 n1 [aC (dp l3 l4 l8 l15 n2 n5 n6 n7 b9 b11 b13 b16 l10 l12 l14 l17)]) (aV (decide (n1<(l12.length:Int))) (dP (l0.length+2) (eL l12 n1 11 λ a=>cV (.call 61 [.d (.g [gD 11 0 a 0,gD 11 0 a 1,gD 11 0 a 2,gD 11 0 a 3,gD 11 0 a 4,gD 11 0 a 5,gD 11 0 a 6,gD 11 0 a 7,gD 11 0 a 8,gD 11 0 a 9,gD 11 0 a 10])] []) λ b=>aS b λ c=>dP ((l0++[32,32]).length+c.length) (dP ((l0++[32,32]++c).length+2) (aR (K3 (l0++[32,32]++c++[44,10]) (i64.wrap (n1+1)) [aC (dp l3 l4 l8 l15 n2 n5 n6 n7 b9 b11 b13 b16 l10 l12 l14 l17)]))))) (aR (K4 l0 0 [aC (dp l3 l4 l8 l15 n2 n5 n6 n7 b9 b11 b13 b16 l10 l12 l14 l17)]))):=aF
theorem BR(l0:aE)(n1:Int)(b2:Bool)(l3:List D)(b4:Bool)(l5:List D)(b6:Bool)(l7:List D):EQ bT (K8 l0 n1 [aC (fI b2 b4 b6 l3 l5 l7)]) (aV (decide (n1<(l7.length:Int))) (eL l7 n1 12 λ a=>cV (.call 31 [.d (.g [gD 12 0 a 0,gD 12 0 a 1,gD 12 0 a 2,gD 12 0 a 3,gD 12 0 a 4,gD 12 0 a 5,gD 12 0 a 6,gD 12 0 a 7,gD 12 0 a 8,gD 12 0 a 9,gD 12 0 a 10,gD 12 0 a 11])] []) λ b=>aS b λ c=>dP (l0.length+c.length) (aR (K8 (l0++c) (i64.wrap (n1+1)) [aC (fI b2 b4 b6 l3 l5 l7)]))) (.ret (vs l0,[]))):=aF
theorem zi(l0:aE)(n1 n2:Int)(l3 l4:aE)(n5 n6 n7:Int)(l8:aE)(b9:Bool)(l10:List D)(b11:Bool)(l12:List D)(b13:Bool)(l14:List D)(l15:aE)(b16:Bool)(l17:List D):EQ bT (K4 l0 n1 [aC (dp l3 l4 l8 l15 n2 n5 n6 n7 b9 b11 b13 b16 l10 l12 l14 l17)]) (aV (decide (n1<(l17.length:Int))) (eL l17 n1 5 λ a=>cV (.call 62 [.d (.g [gD 5 0 a 0,gD 5 0 a 1,gD 5 0 a 2,gD 5 0 a 3,gD 5 0 a 4])] []) λ b=>aS b λ c=>dP (l0.length+c.length) (aR (K4 (l0++c) (i64.wrap (n1+1)) [aC (dp l3 l4 l8 l15 n2 n5 n6 n7 b9 b11 b13 b16 l10 l12 l14 l17)]))) (dP (l0.length+2) (.ret (vs (l0++[125,10]),[])))):=aF
def fi(s:aE):aE:=if s.contains 34=true then [39]++s++[39]else [34]++s++[34]
def cC:List aE->List aE
 |a::b::r=>(a++[58,32]++b)::cC r
 |_=>[]
abbrev cD(k n u:Int)(s:aE)(b:Bool)(l:List D):D := .g [.i .i64 k,.i .i64 n,.i .u64 u,.s s,.l b l]
abbrev fD(h:Bool)(id r:Int)(t nm:aE)(hi:Bool)(k n u:Int)(s:aE)(b:Bool)(l:List D):D := .g [.b h,.i .i64 id,.i .i64 r,.s t,.s nm,.b hi,.i .i64 k,.i .i64 n,.i .u64 u,.s s,.l b l]
abbrev mD(nm:aE)(h:Bool)(n:Int):D := .g [.s nm,.b h,.i .i64 n]
abbrev Uw(nm:aE)(ow:Bool)(ret:aE)(ab:Bool)(al:List D)(tb:Bool)(tl:List D):D := .g [.s nm,.b ow,.s ret,.l ab al,.l tb tl]
abbrev dD(kd:Int)(nm ty:aE)(ck cn cu:Int)(cs:aE)(cb:Bool)(cl:List D)(fb:Bool)(fl:List D)(mb:Bool)(ml:List D)(ex:aE)(tb:Bool)(tl:List D):D:=
 .g [.i .i64 kd,.s nm,.s ty,.i .i64 ck,.i .i64 cn,.i .u64 cu,.s cs,.l cb cl,.l fb fl,.l mb ml,.s ex,.l tb tl]
abbrev C6(a b:aE):D := .g [.s a,.s b]
abbrev AG(ib:Bool)(il:List D)(sb:Bool)(sl:List D)(db:Bool)(dl:List D):D := .g [.l ib il,.l sb sl,.l db dl]
mutual
def eB:D->aE
 | .g [.i _ k,.i _ n,.i _ u,.s s,.l _ l]=>
  if k=1 then cU n else if k=2 then gE u.toNat else if k=3 then fi s else if k=4 then s
  else if k=5 then [91]++Lib.join (kK l) [44,32]++[93]else [123]++Lib.join (cC (kK l)) [44,32]++[125]
 |_=>[]
def kK:List D->List aE
 | []=>[]
 |x::xs=>eB x::kK xs
end
def sd:D->aE
 | .g [.b h,.i _ id,.i _ r,.s t,.s nm,.b hi,k,n,u,s,l]=>
  (if h=true then cU id++[58,32]else [])++(if r=1 then [114,101,113,117,105,114,101,100,32]else if r=2 then [111,112,116,105,111,110,97,108,32]else [])
   ++ t++[32]++nm++(if hi=true then [32,61,32]++eB (.g [k,n,u,s,l])else [])
 |_=>[]
def fh(l:List D):aE:=Lib.join (l.map sd) [44,32]
def te:D->aE
 | .g [.s nm,.b h,.i _ n]=>[32,32]++nm++(if h=true then [32,61,32]++cU n else [])++[44,10]
 |_=>[]
def rT(x:D):aE:=[32,32]++sd x++[44,10]
def iU:D->aE
 | .g [.s nm,.b ow,.s ret,.l _ al,.l _ tl]=>
  [32,32]++(if ow=true then [111,110,101,119,97,121,32]else [])++ret++[32]++nm++[40]++fh al++[41]
   ++ (if tl=[]then []else [32,116,104,114,111,119,115,32,40]++fh tl++[41])++[44,10]
 |_=>[]
def CE(kd:Int):aE:=
 if kd=4 then [115,116,114,117,99,116,32]else if kd=5 then [117,110,105,111,110,32]else [101,120,99,101,112,116,105,111,110,32]
def nr:D->aE
 | .g [.i _ kd,.s nm,.s ty,ck,cn,cu,cs,cl,.l _ fl,.l _ ml,.s ex,.l _ tl]=>
  if kd=1 then [116,121,112,101,100,101,102,32]++ty++[32]++nm++[10]
  else if kd=3 then [99,111,110,115,116,32]++ty++[32]++nm++[32,61,32]++eB (.g [ck,cn,cu,cs,cl])++[10]
  else if kd=2 then [101,110,117,109,32]++nm++[32,123,10]++(ml.map te).flatten++[125,10]
  else if kd=7 then [115,101,114,118,105,99,101,32]++nm++(if ex=[]then []else [32,101,120,116,101,110,100,115,32]++ex)++[32,123,10]++(tl.map iU).flatten++[125,10]
  else CE kd++nm++[32,123,10]++(fl.map rT).flatten++[125,10]
 |_=>[]
def zm:D->aE
 | .s s=>[105,110,99,108,117,100,101,32,34]++s++[34,10]
 |_=>[]
def vH:D->aE
 | .g [.s a,.s b]=>[110,97,109,101,115,112,97,99,101,32]++a++[32]++b++[10]
 |_=>[]
def mN:D->aE
 | .g [.l _ il,.l _ sl,.l _ dl]=>(il.map zm).flatten++(sl.map vH).flatten++(dl.map nr).flatten
 |_=>[]
mutual
def OD:D->D->Bool
 | .g [.i _ k,.i _ n,.i _ u,.s s,.l _ l],.g [.i _ k',.i _ n',.i _ u',.s s',.l _ l']=>k==k'&&(n==n'&&(u==u'&&(s==s'&&zt l l')))
 |_,_=>false
def zt:List D->List D->Bool
 | [],[]=>true
 |x::xs,y::ys=>OD x y&&zt xs ys
 |_,_=>false
end
def kV(f:D->D->Bool):List D->List D->Bool
 | [],[]=>true
 |x::xs,y::ys=>f x y&&kV f xs ys
 |_,_=>false
def T6:D->D->Bool
 | .g [.b h,.i _ id,.i _ r,.s t,.s nm,.b hi,k,n,u,s,l],.g [.b h',.i _ id',.i _ r',.s t',.s nm',.b hi',k',n',u',s',l']=>
  h==h'&&(id==id'&&(r==r'&&(t==t'&&(nm==nm'&&(hi==hi'&&OD (.g [k,n,u,s,l]) (.g [k',n',u',s',l']))))))
 |_,_=>false
def Xh:D->D->Bool
 | .g [.s nm,.b h,.i _ n],.g [.s nm',.b h',.i _ n']=>nm==nm'&&(h==h'&&n==n')
 |_,_=>false
def D0:D->D->Bool
 | .g [.s nm,.b ow,.s ret,.l _ al,.l _ tl],.g [.s nm',.b ow',.s ret',.l _ al',.l _ tl']=>nm==nm'&&(ow==ow'&&(ret==ret'&&(kV T6 al al'&&kV T6 tl tl')))
 |_,_=>false
def GR:D->D->Bool
 | .g [.i _ kd,.s nm,.s ty,ck,cn,cu,cs,cl,.l _ fl,.l _ ml,.s ex,.l _ tl],.g [.i _ kd',.s nm',.s ty',ck',cn',cu',cs',cl',.l _ fl',.l _ ml',.s ex',.l _ tl']=>
  kd==kd'&&(nm==nm'&&(ty==ty'&&(OD (.g [ck,cn,cu,cs,cl]) (.g [ck',cn',cu',cs',cl'])&&(kV T6 fl fl'&&(kV Xh ml ml'&&(ex==ex'&&kV D0 tl tl'))))))
 |_,_=>false
def Xg:D->D->Bool
 | .s a,.s b=>a==b
 |_,_=>false
def V4:D->D->Bool
 | .g [.s a,.s b],.g [.s a',.s b']=>a==a'&&b==b'
 |_,_=>false
def T7:D->D->Bool
 | .g [.l _ il,.l _ sl,.l _ dl],.g [.l _ il',.l _ sl',.l _ dl']=>kV Xg il il'&&(kV V4 sl sl'&&kV GR dl dl')
 |_,_=>false
def Jd(n:Int):Prop:=-9223372036854775808<=n/\n<=9223372036854775807
def YE(n:Int):Prop:=0<=n/\n<18446744073709551616
def Kn:D->Prop
 | .g (.i _ k::_)=>k≠0
 |_=>True
def WC:Nat->D->Prop
 |0,_=>False
 |d+1,x=>∃(k n u:Int) (s:aE) (b:Bool) (l:List D),x=cD k n u s b l/\Jd n/\YE u/\s.length<=2000/\l.length<=100/\(k=0\/(1<=k/\k<=5)\/l.length%2=0)/\∀y∈l,WC d y/\Kn y
abbrev qS:Nat:=20
def WF(x:D):Prop:=∃(h:Bool) (id r:Int) (t nm:aE) (hi:Bool) (k n u:Int) (s:aE) (b:Bool) (l:List D),x=fD h id r t nm hi k n u s b l/\Jd id/\t.length<=100000000/\nm.length<=2000/\(hi=true->k≠0)/\WC qS (cD k n u s b l)
def WM(x:D):Prop:=∃(nm:aE) (h:Bool) (n:Int),x=mD nm h n/\nm.length<=2000/\Jd n
def zP(x:D):Prop:=∃(nm:aE) (ow:Bool) (ret:aE) (ab:Bool) (al:List D) (tb:Bool) (tl:List D),x=Uw nm ow ret ab al tb tl/\nm.length<=2000/\ret.length<=100000000/\al.length<=100/\tl.length<=100/\(∀y∈al,WF y)/\∀y∈tl,WF y
def WD(x:D):Prop:=∃(kd:Int) (nm ty:aE) (ck cn cu:Int) (cs:aE) (cb:Bool) (cl:List D) (fb:Bool) (fl:List D) (mb:Bool) (ml:List D) (ex:aE) (tb:Bool) (tl:List D),
 x=dD kd nm ty ck cn cu cs cb cl fb fl mb ml ex tb tl/\1<=kd/\kd<=7/\nm.length<=2000/\ty.length<=100000000/\(kd=3->ck≠0)/\WC qS (cD ck cn cu cs cb cl)/\
  fl.length<=100/\(∀y∈fl,WF y)/\ml.length<=100/\(∀y∈ml,WM y)/\ex.length<=2000/\tl.length<=100/\(∀y∈tl,zP y)/\
  (kd=2->fl=[]/\tl=[]/\ex=[])/\(4<=kd/\kd<=6->ml=[]/\tl=[]/\ex=[])/\(kd=7->fl=[]/\ml=[])
def WI(x:D):Prop:=∃s:aE,x = .s s/\s.length<=2000/\s.contains 34=false
def WS(x:D):Prop:=∃a b:aE,x=C6 a b/\a.length<=2000/\b.length<=2000
def Tv(x:D):Prop:=∃(ib:Bool) (il:List D) (sb:Bool) (sl:List D) (db:Bool) (dl:List D),x=AG ib il sb sl db dl/\il.length<=100/\sl.length<=100/\dl.length<=100/\(∀y∈il,WI y)/\(∀y∈sl,WS y)/\∀y∈dl,WD y
theorem WC.up:∀{d:Nat} {x:D},WC d x->WC (d+1) x
 |0,_,h=>h.elim
 |d+1,x,h=>by
  obtain⟨k,n,u,s,b,l,rfl,h1,h2,h3,h4,h6,h5⟩:=h;exact⟨k,n,u,s,b,l,rfl,h1,h2,h3,h4,h6,λ y hy=>⟨(h5 y hy).1.up,(h5 y hy).2⟩⟩
theorem WC.le{d e:Nat}(h:d<=e){x:D}(hx:WC d x):WC e x:=by
 induction h with
 |refl=>exact hx
 |step _ ih=>exact ih.up
theorem An:∀{l:List D},(∀y∈l,OD y y=true)->zt l l=true
 | [],_=>by simp only[zt]
 |x::xs,h=>by
  simp only[zt,Bool.and_eq_true];exact⟨h x (by simp),An λ y hy=>h y (by simp[hy])⟩
theorem WC.self:∀{d:Nat} {x:D},WC d x->OD x x=true
 |0,_,h=>h.elim
 |d+1,x,h=>by
  obtain⟨k,n,u,s,b,l,rfl,_,_,_,_,_,h5⟩:=h;simp only[OD,abq,Bool.true_and];exact An λ y hy=>(h5 y hy).1.self
theorem jF{f:D->D->Bool}:∀{l:List D},(∀y∈l,f y y=true)->kV f l l=true
 | [],_=>rfl
 |x::xs,h=>by
  simp only[kV,Bool.and_eq_true];exact⟨h x (by simp),jF λ y hy=>h y (by simp[hy])⟩
theorem WF.self{x:D}(h:WF x):T6 x x=true:=by obtain⟨_,_,_,_,_,_,_,_,_,_,_,_,rfl,_,_,_,_,h⟩:=h;simp only[T6,abq,Bool.true_and];exact h.self
theorem WM.self{x:D}(h:WM x):Xh x x=true:=by obtain⟨_,_,_,rfl,_⟩:=h;simp only[Xh,abq,Bool.and_self]
theorem zP.self{x:D}(h:zP x):D0 x x=true:=by obtain⟨_,_,_,_,_,_,_,rfl,_,_,_,_,h1,h2⟩:=h;simp only[D0,abq,Bool.true_and,Bool.and_eq_true];exact⟨jF λ y hy=>(h1 y hy).self,jF λ y hy=>(h2 y hy).self⟩
theorem WD.self{x:D}(h:WD x):GR x x=true:=by obtain⟨_,_,_,_,_,_,_,_,_,_,_,_,_,_,_,_,rfl,_,_,_,_,_,h1,_,h2,_,h3,_,_,h4,_⟩:=h;simp only[GR,abq,Bool.true_and,Bool.and_eq_true];exact⟨h1.self,jF λ y hy=>(h2 y hy).self,jF λ y hy=>(h3 y hy).self,jF λ y hy=>(h4 y hy).self⟩
theorem Tv.self{x:D}(h:Tv x):T7 x x=true:=by
 obtain⟨_,_,_,_,_,_,rfl,_,_,_,h1,h2,h3⟩:=h;simp only[T7,Bool.and_eq_true];refine⟨jF λ y hy=>?_,jF λ y hy=>?_,jF λ y hy=>(h3 y hy).self⟩
 ·obtain⟨s,rfl,_⟩:=h1 y hy;simp only[Xg,abq]
 ·obtain⟨a,b,rfl,_⟩:=h2 y hy;simp only[V4,abq,Bool.and_self]
theorem y24(f:Bool)(l:List D)(n m:Int):EQ bT (.call 24 [.p 0 0,vi m] [aC [vl f l,vi n]]) (aV (decide (n ≥ (l.length:Int))) (.ret (vi 0,[aC [vl f l,vi n]])) (eC l (i64.wrap (i64.wrap (n+1)-1)) 1 0 λ a=>cf .u8 a λ b=>aO (decide (m≠0)) (.ret (vi ((i64.wrap b).tmod m),[aC [vl f l,vi (i64.wrap (n+1))]])))):=aF
theorem aa9(f:Bool)(l:List D)(n:Int)(s:aE):EQ bT (.call 121 [.p 0 0,vs s] [aC [vl f l,vi n]]) (dP (s.length+1) (c1 (.call 24 [.p 0 0,vi 8] [aC [vl f l,vi n]]) 2 [] λ a b=>aI a λ c=>eC [.s [105,51,50],.s [115,116,114,105,110,103],.s [98,111,111,108],.s (s++[69]),.s [105,54,52],.s [98,105,110,97,114,121],.s [100,111,117,98,108,101],.s [105,56]] c 1 0 λ e=>fJ e λ g => .ret (vs g,[aC b]))):=aF
theorem y55(f:Bool)(l:List D)(n:Int)(s:aE)(d:Int):EQ bT (.call 55 [.p 0 0,vs s,vi d] [aC [vl f l,vi n]]) (c1 (.call 24 [.p 0 0,vi 18] [aC [vl f l,vi n]]) 2 [] λ a b=>aI a λ c=>aV (decide (d>2)) (aR (SO s d (c.tmod 12) [aC b])) (aR (SO s d c [aC b]))):=aF
theorem VX(f:Bool)(l:List D)(n:Int)(t s:aE):EQ bT (.call 120 [.p 0 0,vs t,vs s] [aC [vl f l,vi n]]) (aV (t==[105,51,50]) (aR (SF s t (t==[105,51,50]) [aC (fX [] 0 0 0 true []),aC [vl f l,vi n]])) (aV (t==[105,54,52]) (aR (SF s t (t==[105,54,52]) [aC (fX [] 0 0 0 true []),aC [vl f l,vi n]])) (aV (t==[105,49,54]) (aR (SF s t (t==[105,49,54]) [aC (fX [] 0 0 0 true []),aC [vl f l,vi n]])) (aR (SF s t (t==[105,56]) [aC (fX [] 0 0 0 true []),aC [vl f l,vi n]]))))):=aF
theorem tW(l0:aE)(n1 n2:Int)(l3:List V):EQ bT (SO l0 n1 n2 [aC l3]) (dP (l0.length+1) (dP (l0.length+1) (dP (l0.length+1) (dP (l0.length+1) (aV (decide (n2<14)) (eC [.s [105,51,50],.s [115,116,114,105,110,103],.s [98,111,111,108],.s [105,56],.s [105,49,54],.s [105,54,52],.s [100,111,117,98,108,101],.s [98,105,110,97,114,121],.s (l0++[69]),.s (l0++[84]),.s [105,51,50],.s [115,116,114,105,110,103],.s (l0++[80]),.s (l0++[85])] n2 1 0 λ a=>fJ a λ c => .ret (vs c,[aC l3])) (aV (n2==14) (aR (IQ l0 n1 n2 true [aC l3])) (aR (IQ l0 n1 n2 (n2==15) [aC l3])))))))):=aF
theorem qH(l0 l1:aE)(b2:Bool)(n3 n4 n5:Int)(l6:aE)(b7:Bool)(l8:List D)(b9:Bool)(l10:List D)(n11:Int):EQ bT (SF l0 l1 b2 [aC (fX l6 n3 n4 n5 b7 l8),aC [vl b9 l10,vi n11]]) (aV b2 (c1 (.call 24 [.p 0 0,vi 200] [aC [vl b9 l10,vi n11]]) 2 [] λ o0 l3=>aI o0 λ n6 => .ret (.d (.g [.i .i64 1,.i .i64 (i64.wrap (n6-72)),.i .u64 0,.s [],.l true []]),[aC l3])) (aV (l1==[100,111,117,98,108,101]) (c1 (.call 24 [.p 0 0,vi 255] [aC [vl b9 l10,vi n11]]) 2 [] λ o7 l10=>aI o7 λ n13=>c1 (.call 24 [.p 0 0,vi 255] [aC l10]) l10.length [] λ o14 l17=>aI o14 λ n20 => .ret (.d (.g [.i .i64 2,.i .i64 0,.i .u64 (u64.wrap ((BitVec.ofInt u64.bits (u64.wrap (u64.wrap n13*36028797018963968)) ||| BitVec.ofInt u64.bits (u64.wrap (u64.wrap n20*1099511627776))).toNat:Int)),.s [],.l true []]),[aC l17])) (aV (l1==Up) (aR (RZ l0 l1 (l1==Up) [aC (fX l6 n3 n4 n5 b7 l8),aC [vl b9 l10,vi n11]])) (aR (RZ l0 l1 (l1==[98,105,110,97,114,121]) [aC (fX l6 n3 n4 n5 b7 l8),aC [vl b9 l10,vi n11]]))))):=aF
theorem uU(l0:aE)(n1 n2:Int)(b3:Bool)(l4:List V):EQ bT (IQ l0 n1 n2 b3 [aC l4]) (aV b3 (c1 (.call 55 [.p 0 0,vs l0,vi (i64.wrap (n1+1))] [aC l4]) l4.length [] λ a c=>aS a λ e=>dP (5+e.length) (dP (([108,105,115,116,60]++e).length+1) (.ret (vs ([108,105,115,116,60]++e++[62]),[aC c])))) (aV (n2==16) (c1 (.call 121 [.p 0 0,vs l0] [aC l4]) l4.length [] λ f g=>aS f λ h=>dP (4+h.length) (dP (([115,101,116,60]++h).length+1) (.ret (vs ([115,101,116,60]++h++[62]),[aC g])))) (c1 (.call 121 [.p 0 0,vs l0] [aC l4]) l4.length [] λ j k=>aS j λ l=>dP (4+l.length) (dP ((EU++l).length+1) (c1 (.call 55 [.p 0 0,vs l0,vi (i64.wrap (n1+1))] [aC k]) k.length [] λ m n=>aS m λ o=>dP ((EU++l++[44]).length+o.length) (dP ((EU++l++[44]++o).length+1) (.ret (vs (EU++l++[44]++o++[62]),[aC n])))))))):=aF
theorem kN(l0 l1:aE)(b2:Bool)(n3 n4 n5:Int)(l6:aE)(b7:Bool)(l8:List D)(b9:Bool)(l10:List D)(n11:Int):EQ bT (RZ l0 l1 b2 [aC (fX l6 n3 n4 n5 b7 l8),aC [vl b9 l10,vi n11]]) (aV b2 (c1 (.call 24 [.p 0 0,vi 4] [aC [vl b9 l10,vi n11]]) 2 [] λ o0 l3=>aI o0 λ n6=>eC [.s [],.s [97],.s [120,32,121],.s [105,116,39,115]] n6 1 0 λ d9=>fJ d9 λ l10 => .ret (.d (.g [.i .i64 3,.i .i64 0,.i .u64 0,.s l10,.l true []]),[aC l3])) (aV (l1==[98,111,111,108]) (c1 (.call 24 [.p 0 0,vi 2] [aC [vl b9 l10,vi n11]]) 2 [] λ o11 l14=>aI o11 λ n17=>eC [.s [116,114,117,101],.s [102,97,108,115,101]] n17 1 0 λ d20=>fJ d20 λ l21 => .ret (.d (.g [.i .i64 4,.i .i64 0,.i .u64 0,.s l21,.l true []]),[aC l14])) (dP (l0.length+1) (aV (l1==l0++[69]) (dP (l0.length+3) (.ret (.d (.g [.i .i64 4,.i .i64 0,.i .u64 0,.s (l0++[69,46,65]),.l true []]),[aC [vl b9 l10,vi n11]]))) (dP (l0.length+1) (aV (l1==l0++[84]) (dP (l0.length+1) (.ret (.d (.g [.i .i64 4,.i .i64 0,.i .u64 0,.s (l0++[67]),.l true []]),[aC [vl b9 l10,vi n11]]))) (.ret (.d (.g [.i .i64 5,.i .i64 0,.i .u64 0,.s [],.l true []]),[aC [vl b9 l10,vi n11]])))))))):=aF
theorem qi{f:Task->Option Out}{l:List D}{i:Nat}{s:aE}(h:l[i]?=some (.s s)){K:aE->Tr}:
  aD f (ob (bW l (i:Int)) λ d=>aO (d.width==1) (ob l[((i:Int)).toNat]? λ d2=>ob d2.cells[0]? λ d3=>fJ d3 K))=aD f (K s):=by
 rw[ct,bz h];show aD f (aO true (ob l[((i:Int)).toNat]? λ d2=>ob d2.cells[0]? λ d3=>fJ d3 K))=_;rw[aQ,abe,bz h];rfl
theorem Tt{f:Task->Option Out}{l:List D}{i:Nat}{k:IntKind}{v:Int}(h:l[i]?=some (.i k v)){K:Int->Tr}:
  aD f (ob (bW l (i:Int)) λ d=>aO (d.width==1) (ob l[((i:Int)).toNat]? λ d2=>ob d2.cells[0]? λ d3=>cf k d3 K))=aD f (K v):=by
 rw[ct,bz h];show aD f (aO true (ob l[((i:Int)).toNat]? λ d2=>ob d2.cells[0]? λ d3=>cf k d3 K))=_;rw[aQ,abe,bz h];show aD f (cf k (.i k v) K)=_;rw[bO,aaR rfl]
theorem kh{f:Task->Option Out}{t:Task}{s:aE}{cs:List V}{fl fl':Fl}{m:Nat}{K:List V->aE->Tr}(h:f t=some (.d (.s s),[.cells cs fl]))(hm:cs.length=m:=by rfl)(hf:(fl==fl')=true:=by rfl):
  aD f (.call t λ o=>eE o.snd λ x l2=>dA x λ c g=>aO (c.length==m) (aO (g==fl') (iY l2 (bG o.fst λ d=>fJ d λ y=>K c y))))=aD f (K cs s):=by
 rw[cr h];show aD f (aO (cs.length==m) (aO (fl==fl') (K cs s)))=_;rw[hm,abq,aQ,hf,aQ]
abbrev jb(zs:List Int)(n:Nat):List V:=[vl false (ints .u8 zs),vi (n:Int)]
abbrev pk(zs:List Int)(n:Nat):Ob:=Ob.cells (jb zs n) []
structure Pk (zs:List Int) (n:Nat):Prop where
 w:∀z∈zs,0<=z/\z<256
 l:zs.length<=1000
 n:n<=zs.length
theorem hZ{zs:List Int}{n m:Nat}(h:Pk zs n)(M:Int)(hM:M=(m:Int))(hm:0<m)(hm2:m<1000000):∃k n':Nat,k<m/\Pk zs n'/\
  rk prog bT (.call 24 [V.p 0 0,vi M] [pk zs n])=some (.d (.i .i64 (k:Int)),[pk zs n']):=by
 subst hM;have hlen:(ints .u8 zs).length=zs.length:=jo _ _;have hl:=h.l;have hn:=h.n;by_cases hc:n<zs.length
 ·have hz:=h.w _ (List.getElem_mem hc);have hget:(ints .u8 zs)[n]?=some (.i .u8 zs[n]):=by simp[ints,abl hc]
  refine⟨zs[n].toNat%m,n+1,abz _ hm,⟨h.w,h.l,hc⟩,?_⟩;have w1:=ca n;have w2:i64.wrap (((n+1:Nat):Int)-1)=(n:Int):=bD;have w3:i64.wrap zs[n]=zs[n]:=bD;unfold pk jb;rw[y24,bB (by rw[hlen];omega),w1,w2,Tt hget,aN,w3];show some _=some _;have:(zs[n]).tmod (m:Int)=((zs[n].toNat%m:Nat):Int):=by
   conv=>lhs;rw[<-Int.toNat_of_nonneg hz.1]
   rfl
  rw[this]
 ·refine⟨0,n,hm,h,?_⟩;unfold pk jb;rw[y24,bC (by rw[hlen];omega)];rfl
theorem Wa{zs:List Int}{n:Nat}(h:Pk zs n)(s:aE)(hs:s.length<=100):∃(t:aE) (n':Nat),t.length<=s.length+6/\Pk zs n'/\
  rk prog bT (.call 121 [V.p 0 0,vs s] [pk zs n])=some (.d (.s t),[pk zs n']):=by
 obtain⟨k,n',hk,h',hr⟩:=hZ h (m:=8) 8 rfl (by omega) (by omega);have hx:∃t:aE,([D.s [105,51,50],D.s [115,116,114,105,110,103],D.s [98,111,111,108],D.s (s++[69]),D.s [105,54,52],D.s [98,105,110,97,114,121],D.s [100,111,117,98,108,101],D.s [105,56]]:List D)[k]?=some (.s t)/\t.length<=s.length+6:=by
  rcases k with _|_|_|_|_|_|_|_|k
  all_goals first
   |exact⟨_,rfl,by simp⟩
   |omega
 obtain⟨t,ht,hl⟩:=hx;refine⟨t,n',hl,h',?_⟩;rw[aa9,aN,gu (m:=2) (fl':=[]) hr,qi ht];rfl
def Jg(d B:Nat):Prop:=∀(zs:List Int) (n:Nat) (s:aE),Pk zs n->s.length<=100->∃(t:aE) (n':Nat),t.length<=B/\Pk zs n'/\
 rk prog bT (.call 55 [V.p 0 0,vs s,vi (d:Int)] [pk zs n])=some (.d (.s t),[pk zs n'])
theorem Gt{k:Nat}(hk:k<14)(s:aE)(hs:s.length<=100)(d:Int)(cs:List V):∃t:aE,t.length<=106/\
    rk prog bT (SO s d (k:Int) [aC cs])=some (.d (.s t),[aC cs]):=by
  have hx:∃t:aE,([D.s [105,51,50],D.s [115,116,114,105,110,103],D.s [98,111,111,108],D.s [105,56],D.s [105,49,54],D.s [105,54,52],D.s [100,111,117,98,108,101],
                D.s [98,105,110,97,114,121],D.s (s++[69]),D.s (s++[84]),D.s [105,51,50],D.s [115,116,114,105,110,103],D.s (s++[80]),D.s (s++[85])]:List D)[k]?=some (.s t)/\t.length<=106:=by
    rcases k with _|_|_|_|_|_|_|_|_|_|_|_|_|_|k
    all_goals first
      |(refine⟨_,rfl,?_⟩;simp;done)
      |(refine⟨_,rfl,?_⟩;simp;omega)
      |omega
  obtain⟨t,ht,hl⟩:=hx;refine⟨t,hl,?_⟩;rw[tW,aN,aN,aN,aN,bC,qi ht];rfl
theorem ZA:Jg 3 106:=by intro zs n s h hs;obtain⟨k,n',hk,h',hr⟩:=hZ h (m:=18) 18 rfl (by omega) (by omega);obtain⟨t,ht,hl⟩:=Gt (k:=k%12) (by omega) s hs 3 (jb zs n');refine⟨t,n',ht,h',?_⟩;have e:((k:Int)).tmod 12=((k%12:Nat):Int):=rfl;rw[y55,gu (m:=2) (fl':=[]) hr,bC (by decide),e];exact aM hl
theorem IY{d B:Nat}(hd:d<=2)(hB:B<=1000)(hi:Jg (d+1) B):Jg d (B+112):=by
 intro zs n s h hs;obtain⟨k,n',hk,h',hr⟩:=hZ h (m:=18) 18 rfl (by omega) (by omega);have w:=ca d;have key:∃(t:aE) (n2:Nat),t.length<=B+112/\Pk zs n2/\rk prog bT (SO s (d:Int) (k:Int) [aC (jb zs n')])=some (.d (.s t),[pk zs n2]):=by
  by_cases hk14:k<14
  ·obtain⟨t,ht,hl⟩:=Gt hk14 s hs d (jb zs n');by_cases hB106:B+112<106
   ·omega
   ·exact⟨t,n',by omega,h',hl⟩
  ·-- a list
   have hlist:∃(t:aE) (n2:Nat),t.length<=B+112/\Pk zs n2/\∀k2:Int,rk prog bT (IQ s (d:Int) k2 true [aC (jb zs n')])=some (.d (.s t),[pk zs n2]):=by obtain⟨t,n2,ht,h2,hr2⟩:=hi zs n' s h' hs;refine⟨[108,105,115,116,60]++t++[62],n2,by simp;omega,h2,λ k2=>?_⟩;rw[uU,bQ,w,kh (m:=(jb zs n').length) (fl':=[]) hr2 rfl rfl,aN,aN (by simp;omega)];rfl
   have hset:k=16->∃(t:aE) (n2:Nat),t.length<=B+112/\Pk zs n2/\rk prog bT (IQ s (d:Int) (k:Int) false [aC (jb zs n')])=some (.d (.s t),[pk zs n2]):=by intro hk16;obtain⟨t,n2,ht,h2,hr2⟩:=Wa h' s hs;refine⟨[115,101,116,60]++t++[62],n2,by simp;omega,h2,?_⟩;rw[uU,bH,bM,kh (m:=(jb zs n').length) (fl':=[]) hr2 rfl rfl,aN,aN (by simp;omega)];rfl
   have hmap:k≠16->∃(t:aE) (n2:Nat),t.length<=B+112/\Pk zs n2/\rk prog bT (IQ s (d:Int) (k:Int) false [aC (jb zs n')])=some (.d (.s t),[pk zs n2]):=by
    intro hk16;obtain⟨t,n2,ht,h2,hr2⟩:=Wa h' s hs;obtain⟨u,n3,hu,h3,hr3⟩:=hi zs n2 s h2 hs;refine⟨[109,97,112,60]++t++[44]++u++[62],n3,by simp;omega,h3,?_⟩
    rw[uU,bH,bp,kh (m:=(jb zs n').length) (fl':=[]) hr2 rfl rfl,aN,aN (by simp;omega),w,
     kh (m:=(jb zs n2).length) (fl':=[]) hr3 rfl rfl,aN (by simp;omega),aN (by simp;omega)]
    rfl
   by_cases h14:k=14
   ·obtain⟨t,n2,ht,h2,hr2⟩:=hlist;refine⟨t,n2,ht,h2,?_⟩;rw[tW,aN,aN,aN,aN,bB,bM];exact aM (hr2 _)
   ·by_cases h15:k=15
    ·obtain⟨t,n2,ht,h2,hr2⟩:=hlist;refine⟨t,n2,ht,h2,?_⟩;have e:((k:Int)==15)=true:=by rw[h15];rfl
     rw[tW,aN,aN,aN,aN,bB,bp,e];exact aM (hr2 _)
    ·have e:((k:Int)==15)=false:=abr.2 (by omega)
     have hx:∃(t:aE) (n2:Nat),t.length<=B+112/\Pk zs n2/\rk prog bT (IQ s (d:Int) (k:Int) false [aC (jb zs n')])=some (.d (.s t),[pk zs n2]):=by
      by_cases h16:k=16
      ·exact hset h16
      ·exact hmap h16
     obtain⟨t,n2,ht,h2,hr2⟩:=hx;refine⟨t,n2,ht,h2,?_⟩;rw[tW,aN,aN,aN,aN,bB,bp,e];exact aM hr2
 obtain⟨t,n2,ht,h2,hr2⟩:=key;refine⟨t,n2,ht,h2,?_⟩;rw[y55,gu (m:=2) (fl':=[]) hr,bB];exact aM hr2
theorem BJ:Jg 0 442:=IY (by omega) (by omega) (IY (by omega) (by omega) (IY (by omega) (by omega) ZA))
def BU(d:D):Prop:=∃(k n u:Int) (s:aE),d = .g [.i .i64 k,.i .i64 n,.i .u64 u,.s s,.l true []]/\1<=k/\k<=5/\-1000<=n/\n<=1000/\0<=u/\u<18446744073709551616/\s.length<=103
theorem k8{k n u:Int}{s:aE}(h1:1<=k/\k<=5)(h2:-1000<=n/\n<=1000)(h3:0<=u/\u<18446744073709551616)(h4:s.length<=103):BU (.g [.i .i64 k,.i .i64 n,.i .u64 u,.s s,.l true []]):=
 ⟨k,n,u,s,rfl,h1.1,h1.2,h2.1,h2.2,h3.1,h3.2,h4⟩
theorem Oq(n:Int):u64.wrap n=n%18446744073709551616:=by
 have e:((2:Int)^u64.bits)=18446744073709551616:=by decide
 simp[IntKind.wrap,IntKind.signed,e]
theorem Oo(n:Int):0<=u64.wrap n/\u64.wrap n<18446744073709551616:=by rw[Oq];omega
theorem Tk{zs:List Int}{n:Nat}(h:Pk zs n)(s t:aE)(hs:s.length<=100)(b:Bool)(hb:b=false->t≠[100,111,117,98,108,101])(n3 n4 n5:Int)(l6:aE)(b7:Bool)(l8:List D):
  ∃(d:D) (n':Nat),BU d/\Pk zs n'/\rk prog bT (.at_ 120 1 (aJ 1013) (sv 61 [(0,V.p 0 0),(2,vs s),(6,V.p 1 0),(7,vs t),(29,vb b)]) []
   [aC (fX l6 n3 n4 n5 b7 l8),pk zs n])=some (.d d,[pk zs n']):=by
 cases b with
 |true=>
  obtain⟨k,n',hk,h',hr⟩:=hZ h (m:=4) 4 rfl (by omega) (by omega);have hx:∃u:aE,([D.s [],D.s [97],D.s [120,32,121],D.s [105,116,39,115]]:List D)[k]?=some (.s u)/\u.length<=103:=by
   rcases k with _|_|_|_|k
   all_goals first
    |(refine⟨_,rfl,?_⟩;simp;done)
    |omega
  obtain⟨u,hu,hl⟩:=hx;refine⟨_,n',k8 (k:=3) (n:=0) (u:=0) (by omega) (by omega) (by omega) hl,h',?_⟩;rw[kN,bQ,gu (m:=2) (fl':=[]) hr,qi hu];rfl
 |false=>
  by_cases hbool:t=[98,111,111,108]
  ·obtain⟨k,n',hk,h',hr⟩:=hZ h (m:=2) 2 rfl (by omega) (by omega)
   have hx:∃u:aE,([D.s [116,114,117,101],D.s [102,97,108,115,101]]:List D)[k]?=some (.s u)/\u.length<=103:=by
    rcases k with _|_|k
    all_goals first
     |(refine⟨_,rfl,?_⟩;simp;done)
     |omega
   obtain⟨u,hu,hl⟩:=hx;refine⟨_,n',k8 (k:=4) (n:=0) (u:=0) (by omega) (by omega) (by omega) hl,h',?_⟩;rw[kN,bH,eH (by rw[hbool];rfl),gu (m:=2) (fl':=[]) hr,qi hu];rfl
  ·by_cases hE:t=s++[69]
   ·refine⟨_,n,k8 (k:=4) (n:=0) (u:=0) (s:=s++[69,46,65]) (by omega) (by omega) (by omega) (by simp;omega),h,?_⟩
    rw[kN,bH,cX (abr.2 hbool),aN,eH (beq_iff_eq.2 hE),aN];rfl
   ·by_cases hT:t=s++[84]
    ·refine⟨_,n,k8 (k:=4) (n:=0) (u:=0) (s:=s++[67]) (by omega) (by omega) (by omega) (by simp;omega),h,?_⟩
     rw[kN,bH,cX (abr.2 hbool),aN,cX (abr.2 hE),aN,eH (beq_iff_eq.2 hT),aN];rfl
    ·refine⟨_,n,k8 (k:=5) (n:=0) (u:=0) (s:=[]) (by omega) (by omega) (by omega) (by simp),h,?_⟩
     rw[kN,bH,cX (abr.2 hbool),aN,cX (abr.2 hE),aN,cX (abr.2 hT)];rfl
theorem Yk{zs:List Int}{n:Nat}(h:Pk zs n)(s t:aE)(hs:s.length<=100)(b:Bool)(n3 n4 n5:Int)(l6:aE)(b7:Bool)(l8:List D):
  ∃(d:D) (n':Nat),BU d/\Pk zs n'/\rk prog bT (.at_ 120 1 (aJ 53) (sv 61 [(0,V.p 0 0),(2,vs s),(6,V.p 1 0),(7,vs t),(8,vb b)]) []
   [aC (fX l6 n3 n4 n5 b7 l8),pk zs n])=some (.d d,[pk zs n']):=by
 cases b with
 |true=>
  obtain⟨k,n',hk,h',hr⟩:=hZ h (m:=200) 200 rfl (by omega) (by omega);have w:i64.wrap ((k:Int)-72)=(k:Int)-72:=bD;refine⟨_,n',k8 (k:=1) (n:=(k:Int)-72) (u:=0) (s:=[]) (by omega) (by omega) (by omega) (by simp),h',?_⟩;rw[qH,bQ,gu (m:=2) (fl':=[]) hr,w];rfl
 |false=>
  by_cases hd:t=[100,111,117,98,108,101]
  ·obtain⟨k,n',hk,h',hr⟩:=hZ h (m:=255) 255 rfl (by omega) (by omega)
   obtain⟨k2,n2,hk2,h2,hr2⟩:=hZ h' (m:=255) 255 rfl (by omega) (by omega);refine⟨_,n2,k8 (k:=2) (n:=0) (u:=u64.wrap ((BitVec.ofInt u64.bits (u64.wrap (u64.wrap (k:Int)*36028797018963968)) ||| BitVec.ofInt u64.bits (u64.wrap (u64.wrap (k2:Int)*1099511627776))).toNat:Int)) (s:=[]) (by omega) (by omega) (Oo _) (by simp),h2,?_⟩;rw[qH,bH,eH (by rw[hd];rfl),gu (m:=2) (fl':=[]) hr,gu (m:=(jb zs n').length) (fl':=[]) hr2 rfl rfl];rfl
  ·by_cases hstr:t=[115,116,114,105,110,103]
   ·obtain⟨d,n',hL,h',hr⟩:=Tk h s t hs true (λ e=>by cases e) n3 n4 n5 l6 b7 l8
    refine⟨d,n',hL,h',?_⟩;have e:(t==[115,116,114,105,110,103])=true:=beq_iff_eq.2 hstr;rw[qH,bH,cX (abr.2 hd),e];exact aM hr
   ·obtain⟨d,n',hL,h',hr⟩:=Tk h s t hs (t==[98,105,110,97,114,121]) (λ _=>hd) n3 n4 n5 l6 b7 l8;refine⟨d,n',hL,h',?_⟩;rw[qH,bH,cX (abr.2 hd),cX (abr.2 hstr)];exact aM hr
theorem Xu{zs:List Int}{n:Nat}(h:Pk zs n)(t s:aE)(hs:s.length<=100):∃(d:D) (n':Nat),BU d/\Pk zs n'/\
  rk prog bT (.call 120 [V.p 0 0,vs t,vs s] [pk zs n])=some (.d d,[pk zs n']):=by
 have key:∀b:Bool,_:=λ b=>Yk h s t hs b 0 0 0 [] true [];by_cases h1:t=[105,51,50]
 ·obtain⟨d,n',hL,h',hr⟩:=key (t==[105,51,50]);refine⟨d,n',hL,h',?_⟩;rw[VX,eH (beq_iff_eq.2 h1)];exact aM hr
 ·by_cases h2:t=[105,54,52]
  ·obtain⟨d,n',hL,h',hr⟩:=key (t==[105,54,52]);refine⟨d,n',hL,h',?_⟩;rw[VX,cX (abr.2 h1),eH (beq_iff_eq.2 h2)];exact aM hr
  ·by_cases h3:t=[105,49,54]
   ·obtain⟨d,n',hL,h',hr⟩:=key (t==[105,49,54]);refine⟨d,n',hL,h',?_⟩;rw[VX,cX (abr.2 h1),cX (abr.2 h2),eH (beq_iff_eq.2 h3)];exact aM hr
   ·obtain⟨d,n',hL,h',hr⟩:=key (t==[105,56]);refine⟨d,n',hL,h',?_⟩;rw[VX,cX (abr.2 h1),cX (abr.2 h2),cX (abr.2 h3)];exact aM hr
theorem y54(f:Bool)(l:List D)(n:Int)(s:aE):EQ bT (.call 54 [.p 0 0,vs s] [aC [vl f l,vi n]]) (c1 (.call 24 [.p 0 0,vi 3] [aC [vl f l,vi n]]) 2 [] λ a b=>aI a λ c=>aR (Vu s 0 c true [] [aC b])):=aF
theorem y53(f:Bool)(l:List D)(n m:Int)(s:aE)(u:Bool):EQ bT (.call 53 [.p 0 0,vi m,vs s,vb u] [aC [vl f l,vi n]]) (c1 (.call 24 [.p 0 0,vi (i64.wrap (m+1))] [aC [vl f l,vi n]]) 2 [] λ a c=>aI a λ e=>aR (Vh s 0 e u true [] [aC c])):=aF
theorem GL(l0:aE)(b1:Bool)(l2:List D)(n3 n4:Int)(l5:List V):EQ bT (Vu l0 n3 n4 b1 l2 [aC l5]) (aV (decide (n3<n4)) (c1 (.call 55 [.p 0 0,vs l0,vi 0] [aC l5]) l5.length [] λ a c=>aS a λ e=>aO (bA 11 l2) (aO (b1||true) (aO (decide (l2.length+1<=4294967296)) (aR (Vu l0 (i64.wrap (n3+1)) n4 (b1&&false) (l2++[.g [.b true,.i .i64 (i64.wrap (n3+1)),.i .i64 0,.s e,.s ([97]++[UInt8.ofNat (u8.wrap (i64.wrap (48+n3))).toNat]),.b false,.i .i64 0,.i .i64 0,.i .u64 0,.s [],.l true []]]) [aC c]))))) (.ret (vl b1 l2,[aC l5]))):=aF
theorem qh(l0:aE)(b1 b2:Bool)(l3:List D)(n4 n5:Int)(l6:List V):EQ bT (Vh l0 n4 n5 b1 b2 l3 [aC l6]) (aV (decide (n4<n5)) (aR (RT l0 n4 n5 b1 b2 true l3 [aC l6])) (aV b1 (aR (RT l0 n4 n5 b1 b2 (n4==0) l3 [aC l6])) (aR (RT l0 n4 n5 b1 b2 false l3 [aC l6])))):=aF
theorem uT(l0:aE)(b1 b2:Bool)(l3:List D)(n4 n5:Int)(b6:Bool)(l7:List V):EQ bT (RT l0 n4 n5 b1 b2 b6 l3 [aC l7]) (aV b6 (c1 (.call 24 [.p 0 0,vi 6] [aC l7]) l7.length [] λ a c=>aI a λ e=>c1 (.call 24 [.p 0 0,vi 3] [aC c]) c.length [] λ f g=>aI f λ h=>c1 (.call 55 [.p 0 0,vs l0,vi 0] [aC g]) g.length [] λ j k=>aS j λ m=>aV (!decide (e>0)) (aR (Vd l0 n4 n5 b1 b2 l3 [aC (mQ m ([102]++[UInt8.ofNat (u8.wrap (i64.wrap (97+n4))).toNat]) [] 0 0 0 0 0 (decide (e>0)) false true []),aC k])) (aR (Vd l0 n4 n5 b1 b2 l3 [aC (mQ m ([102]++[UInt8.ofNat (u8.wrap (i64.wrap (97+n4))).toNat]) [] (i64.wrap (i64.wrap (1+n4)+i64.wrap (i64.wrap (n4*h)*8))) 0 0 0 0 (decide (e>0)) false true []),aC k]))) (.ret (vl b2 l3,[aC l7]))):=aF
theorem lZ(l0:aE)(b1 b2:Bool)(l3:List D)(n4 n5:Int)(b6:Bool)(n7 n8:Int)(l9 l10:aE)(b11:Bool)(n12 n13 n14:Int)(l15:aE)(b16:Bool)(l17:List D)(l18:List V):EQ bT (Vd l0 n4 n5 b1 b2 l3 [aC (mQ l9 l10 l15 n7 n8 n12 n13 n14 b6 b11 b16 l17),aC l18]) (aV (!b1) (c1 (.call 24 [.p 0 0,vi 4] [aC l18]) l18.length [] λ a c=>aI a λ e=>eC [.i .i64 0,.i .i64 0,.i .i64 1,.i .i64 2] e 1 0 λ f=>cf .i64 f λ g=>aV (g==1) (dP (l0.length+1) (aV (l9==l0++[80]) (c1 (.call 24 [.p 0 0,vi 4] [aC c]) c.length [] λ h j=>aI h λ k=>aR (YB l0 n4 n5 b1 b2 (decide (k>0)) l3 [aC (mQ l9 l10 l15 n7 g n12 n13 n14 b6 b11 b16 l17),aC j])) (dP (l0.length+1) (aV (l9==l0++[85]) (c1 (.call 24 [.p 0 0,vi 4] [aC c]) c.length [] λ m n=>aI m λ o=>aR (YB l0 n4 n5 b1 b2 (decide (o>0)) l3 [aC (mQ l9 l10 l15 n7 g n12 n13 n14 b6 b11 b16 l17),aC n])) (aR (YB l0 n4 n5 b1 b2 false l3 [aC (mQ l9 l10 l15 n7 g n12 n13 n14 b6 b11 b16 l17),aC c])))))) (aR (YB l0 n4 n5 b1 b2 false l3 [aC (mQ l9 l10 l15 n7 g n12 n13 n14 b6 b11 b16 l17),aC c]))) (aR (X6 l0 n4 n5 b1 b2 l3 [aC (mQ l9 l10 l15 n7 n8 n12 n13 n14 b6 b11 b16 l17),aC l18]))):=aF
theorem lk(l0:aE)(b1 b2:Bool)(l3:List D)(n4 n5:Int)(b6 b7:Bool)(n8 n9:Int)(l10 l11:aE)(b12:Bool)(n13 n14 n15:Int)(l16:aE)(b17:Bool)(l18:List D)(l19:List V):EQ bT (YB l0 n4 n5 b1 b2 b6 l3 [aC (mQ l10 l11 l16 n8 n9 n13 n14 n15 b7 b12 b17 l18),aC l19]) (aV b6 (c1 (.call 24 [.p 0 0,vi 6] [aC l19]) l19.length [] λ a c=>aI a λ e=>aV (e==0) (c1 (.call 120 [.p 0 0,vs l10,vs l0] [aC c]) c.length [] λ f g=>bG f λ h=>j5 5 h λ j=>aO ([.d (aH j 0),.d (aH j 1),.d (aH j 2),.d (aH j 3),.d (aH j 4)].all V.one) (aR (X6 l0 n4 n5 b1 b2 l3 [aC [vb b7,vi n8,vi 0,vs l10,vs l11,vb true,.d (aH j 0),.d (aH j 1),.d (aH j 2),.d (aH j 3),.d (aH j 4)],aC g]))) (aR (X6 l0 n4 n5 b1 b2 l3 [aC (mQ l10 l11 l16 n8 0 n13 n14 n15 b7 b12 b17 l18),aC c]))) (c1 (.call 24 [.p 0 0,vi 6] [aC l19]) l19.length [] λ k m=>aI k λ n=>aV (n==0) (c1 (.call 120 [.p 0 0,vs l10,vs l0] [aC m]) m.length [] λ o q=>bG o λ r=>j5 5 r λ t=>aO ([.d (aH t 0),.d (aH t 1),.d (aH t 2),.d (aH t 3),.d (aH t 4)].all V.one) (aR (X6 l0 n4 n5 b1 b2 l3 [aC [vb b7,vi n8,vi n9,vs l10,vs l11,vb true,.d (aH t 0),.d (aH t 1),.d (aH t 2),.d (aH t 3),.d (aH t 4)],aC q]))) (aR (X6 l0 n4 n5 b1 b2 l3 [aC (mQ l10 l11 l16 n8 n9 n13 n14 n15 b7 b12 b17 l18),aC m])))):=aF
theorem Ja(l0:aE)(b1 b2:Bool)(l3:List D)(n4 n5:Int)(b6:Bool)(n7 n8:Int)(l9 l10:aE)(b11:Bool)(n12 n13 n14:Int)(l15:aE)(b16:Bool)(l17:List D)(l18:List V):EQ bT (X6 l0 n4 n5 b1 b2 l3 [aC (mQ l9 l10 l15 n7 n8 n12 n13 n14 b6 b11 b16 l17),aC l18]) (aO (bA 11 l3) (aO (b2||true) (aO (decide (l3.length+1<=4294967296)) (aR (Vh l0 (i64.wrap (n4+1)) n5 b1 (b2&&false) (l3++[.g [.b b6,.i .i64 n7,.i .i64 n8,.s l9,.s l10,.b b11,.i .i64 n12,.i .i64 n13,.i .u64 n14,.s l15,.l b16 l17]]) [aC l18]))))):=aF
def eX(d:D):Prop:=∃(h:Bool) (id r:Int) (t nm:aE) (hi:Bool) (k n u:Int) (s:aE),
 d = .g [.b h,.i .i64 id,.i .i64 r,.s t,.s nm,.b hi,.i .i64 k,.i .i64 n,.i .u64 u,.s s,.l true []]/\0<=id/\id<=1000/\0<=r/\r<=2/\t.length<=442/\nm.length<=2/\
  (hi=true->1<=k)/\0<=k/\k<=5/\-1000<=n/\n<=1000/\0<=u/\u<18446744073709551616/\s.length<=103
theorem eX.width{d:D}(h:eX d):d.width=11:=by obtain⟨_,_,_,_,_,_,_,_,_,_,rfl,_⟩:=h;rfl
theorem sQ{l:List D}(h:∀x∈l,eX x):bA 11 l=true:=by
 cases l with
 |nil=>rfl
 |cons x l=>
  have:=(h x (by simp)).width;simp[bA,this]
theorem S6{zs:List Int}{n:Nat}(h:Pk zs n)(s:aE)(hs:s.length<=100):∃(t:aE) (n':Nat),t.length<=442/\Pk zs n'/\
  rk prog bT (.call 55 [V.p 0 0,vs s,vi 0] [pk zs n])=some (.d (.s t),[pk zs n']):=BJ zs n s h hs
theorem zR(zs:List Int)(s:aE)(hs:s.length<=100)(N:Nat)(hN:N<=2):∀(m i n:Nat) (b:Bool) (l:List D),i+m=N->Pk zs n->l.length=i->(∀x∈l,eX x)->
  ∃(b':Bool) (l':List D) (n':Nat),l'.length<=2/\(∀x∈l',eX x)/\Pk zs n'/\
   rk prog bT (Vu s (i:Int) (N:Int) b l [aC (jb zs n)])=some (.d (.l b' l'),[pk zs n'])
 |0,i,n,b,l,e,h,hl,hf=>by
  refine⟨b,l,n,by omega,hf,h,?_⟩;rw[GL,bB];rfl
 |m+1,i,n,b,l,e,h,hl,hf=>by
  obtain⟨t,n2,ht,h2,hr⟩:=S6 h s hs;have w1:=ca i;have hf':∀x∈l++[D.g [D.b true,D.i .i64 ((i+1:Nat):Int),D.i .i64 0,D.s t,D.s ([97]++[UInt8.ofNat (u8.wrap (i64.wrap (48+(i:Int)))).toNat]),D.b false,D.i .i64 0,D.i .i64 0,D.i .u64 0,D.s [],D.l true []]],eX x:=by
   intro x hx;rcases List.mem_append.1 hx with hx|hx
   ·exact hf x hx
   ·simp only[abK]at hx;subst hx;exact⟨_,_,_,_,_,_,_,_,_,_,rfl,by omega,by omega,by omega,by omega,ht,by simp,by simp,by omega,by omega,by omega,by omega,by omega,by omega,by simp⟩
  obtain⟨b',l',n',q1,q2,q3,q4⟩:=zR zs s hs N hN m (i+1) n2 (b&&false) _ (by omega) h2 (by simp[hl]) hf';refine⟨b',l',n',q1,q2,q3,?_⟩;rw[GL,bC,kh (m:=(jb zs n).length) (fl':=[]) hr rfl rfl,sQ hf,aQ,Bool.or_true,aQ,aN,w1];exact aM q4
theorem WK{zs:List Int}{n:Nat}(h:Pk zs n)(s:aE)(hs:s.length<=100):∃(b:Bool) (l:List D) (n':Nat),l.length<=2/\(∀x∈l,eX x)/\Pk zs n'/\
  rk prog bT (.call 54 [V.p 0 0,vs s] [pk zs n])=some (.d (.l b l),[pk zs n']):=by
 obtain⟨k,n1,hk,h1,hr⟩:=hZ h (m:=3) 3 rfl (by omega) (by omega);obtain⟨b,l,n',q1,q2,q3,q4⟩:=zR zs s hs k (by omega) k 0 n1 true [] (by omega) h1 rfl (by simp);refine⟨b,l,n',q1,q2,q3,?_⟩;rw[y54,gu (m:=2) (fl':=[]) hr];exact aM q4
theorem jR{f:Task->Option Out}{t:Task}{gs:List D}{cs:List V}{fl fl':Fl}{m w:Nat}{K:List V->List D->Tr}(h:f t=some (.d (.g gs),[.cells cs fl]))(hm:cs.length=m:=by rfl)(hf:(fl==fl')=true:=by rfl)(hw:gs.length=w):
  aD f (.call t λ o=>eE o.snd λ x l2=>dA x λ c g=>aO (c.length==m) (aO (g==fl') (iY l2 (bG o.fst λ d=>j5 w d λ y=>K c y))))=aD f (K cs gs):=by
 rw[cr h];show aD f (aO (cs.length==m) (aO (fl==fl') (j5 w (.g gs) λ y=>K cs y)))=_;rw[hm,abq,aQ,hf,aQ,lH,aaR hw]
def iK(zs:List Int)(t:Task):Prop:=∃(b':Bool) (l':List D) (n':Nat),l'.length<=5/\(∀x∈l',eX x)/\Pk zs n'/\rk prog bT t=some (.d (.l b' l'),[pk zs n'])
abbrev fc(h:Bool)(id r:Int)(t nm:aE)(hi:Bool)(k n u:Int)(s:aE):Ob:=
 Ob.cells (mQ t nm s id r k n u h hi true []) []
abbrev Yd(s:aE)(u b:Bool)(l:List D)(i N:Int)(o:Ob):Task:=
 Vh s i N u b l [o]
abbrev Ye(s:aE)(u b:Bool)(l:List D)(i N:Int)(f o:Ob):Task:=
 X6 s i N u b l [f,o]
abbrev ZC(s:aE)(u b:Bool)(l:List D)(i N:Int)(c:Bool)(f o:Ob):Task:=
 YB s i N u b c l [f,o]
abbrev aaU(s:aE)(u b:Bool)(l:List D)(i N:Int)(f o:Ob):Task:=
 Vd s i N u b l [f,o]
abbrev VU(s:aE)(u b:Bool)(l:List D)(i N:Int)(c:Bool)(o:Ob):Task:=
 RT s i N u b c l [o]
theorem iK.of_eq{zs:List Int}{t t2:Task}(h:iK zs t2)(e:rk prog bT t=aD (rk prog bT) (Tr.call t2 Tr.ret)):iK zs t:=by obtain⟨b,l,n,h1,h2,h3,h4⟩:=h;exact⟨b,l,n,h1,h2,h3,by rw[e];exact aM h4⟩
section
variable {zs : List Int} {s : aE} (hs : s.length ≤ 100) {u b : Bool} {l : List D} {i N : Nat} (hl : l.length = i) (hi5 : i < 5) (hf : ∀ x ∈ l, eX x)
include hs hl hi5 hf
theorem Xl{h:Bool}{id r:Int}{t nm:aE}{hi:Bool}{k n u':Int}{s':aE}{m:Nat}
  (hg:iK zs (Yd s u (b&&false) (l++[D.g [.b h,.i .i64 id,.i .i64 r,.s t,.s nm,.b hi,.i .i64 k,.i .i64 n,.i .u64 u',.s s',.l true []]]) ((i+1:Nat):Int) (N:Int) (pk zs m))):
  iK zs (Ye s u b l (i:Int) (N:Int) (fc h id r t nm hi k n u' s') (pk zs m)):=by
 refine hg.of_eq ?_;have w1:=ca i;rw[Ja,sQ hf,aQ,Bool.or_true,aQ,aN,w1]
def ZQ(zs:List Int)(s:aE)(u b:Bool)(l:List D)(i N:Nat):Prop:=∀(x:D) (m:Nat),eX x->Pk zs m->iK zs (Yd s u (b&&false) (l++[x]) ((i+1:Nat):Int) (N:Int) (pk zs m))
theorem aas(hN:ZQ zs s u b l i N){c h:Bool}{id r:Int}{t nm:aE}{m:Nat}(hp:Pk zs m)(hid:0<=id/\id<=1000)(hr:0<=r/\r<=2)(ht:t.length<=442)(hnm:nm.length<=2):
  iK zs (ZC s u b l (i:Int) (N:Int) c (fc h id r t nm false 0 0 0 []) (pk zs m)):=by
 obtain⟨k,m2,hk,h2,hr2⟩:=hZ hp (m:=6) 6 rfl (by omega) (by omega);obtain⟨d,m3,⟨ck,cn,cu,cs,rfl,q1,q2,q3,q4,q5,q6,q7⟩,h3,hr3⟩:=Xu h2 t s hs
 have plain:∀r':Int,0<=r'/\r'<=2->iK zs (Ye s u b l (i:Int) (N:Int) (fc h id r' t nm false 0 0 0 []) (pk zs m2)):=λ r' hr'=>
  Xl hs hl hi5 hf (hN _ _ ⟨_,_,_,_,_,_,_,_,_,_,rfl,hid.1,hid.2,hr'.1,hr'.2,ht,hnm,by simp,by omega,by omega,by omega,by omega,by omega,by omega,by simp⟩ h2)
 have made:∀r':Int,0<=r'/\r'<=2->iK zs (Ye s u b l (i:Int) (N:Int) (fc h id r' t nm true ck cn cu cs) (pk zs m3)):=λ r' hr'=>
  Xl hs hl hi5 hf (hN _ _ ⟨_,_,_,_,_,_,_,_,_,_,rfl,hid.1,hid.2,hr'.1,hr'.2,ht,hnm,λ _=>q1,by omega,q2,q3,q4,q5,q6,q7⟩ h3)
 cases c with
 |true=>
  by_cases hk0:k=0
  ·refine(made 0 (by omega)).of_eq ?_
   rw[lk,bQ,gu (m:=(jb zs m).length) (fl':=[]) hr2 rfl rfl,bM,jR (m:=(jb zs m2).length) (fl':=[]) (w:=5) hr3 rfl rfl rfl];rfl
  ·refine(plain 0 (by omega)).of_eq ?_
   rw[lk,bQ,gu (m:=(jb zs m).length) (fl':=[]) hr2 rfl rfl,bp]
 |false=>
  by_cases hk0:k=0
  ·refine(made r hr).of_eq ?_;rw[lk,bH,gu (m:=(jb zs m).length) (fl':=[]) hr2 rfl rfl,bM,jR (m:=(jb zs m2).length) (fl':=[]) (w:=5) hr3 rfl rfl rfl];rfl
  ·refine(plain r hr).of_eq ?_;rw[lk,bH,gu (m:=(jb zs m).length) (fl':=[]) hr2 rfl rfl,bp]
theorem Y1(hN:ZQ zs s u b l i N){h:Bool}{id:Int}{t nm:aE}{m:Nat}(hp:Pk zs m)(hid:0<=id/\id<=1000)(ht:t.length<=442)(hnm:nm.length<=2):
  iK zs (aaU s u b l (i:Int) (N:Int) (fc h id 0 t nm false 0 0 0 []) (pk zs m)):=by
 cases hu:u with
 |true=>
  subst hu;refine(Xl hs hl hi5 hf (hN _ _ ⟨h,id,0,t,nm,false,0,0,0,[],rfl,hid.1,hid.2,by omega,by omega,ht,hnm,by simp,by omega,by omega,by omega,by omega,by omega,by omega,by simp⟩ hp)).of_eq ?_;rw[lZ,mr]
 |false=>
  subst hu;obtain⟨k,m2,hk,h2,hr2⟩:=hZ hp (m:=4) 4 rfl (by omega) (by omega);have hx:∃r:Int,([D.i i64 0,D.i i64 0,D.i i64 1,D.i i64 2]:List D)[k]?=some (.i .i64 r)/\0<=r/\r<=2:=by
   rcases k with _|_|_|_|k
   all_goals first
    |(refine⟨_,rfl,?_,?_⟩<;>omega)
    |omega
  obtain⟨r,hr,hr0⟩:=hx;obtain⟨k3,m3,hk3,h3,hr3⟩:=hZ h2 (m:=4) 4 rfl (by omega) (by omega);have g:∀(c:Bool) (m':Nat),Pk zs m'->iK zs (ZC s false b l (i:Int) (N:Int) c (fc h id r t nm false 0 0 0 []) (pk zs m')):=λ c m' hm'=>aas hs hl hi5 hf hN hm' hid hr0 ht hnm;by_cases hr1:r=1
  ·by_cases hP:t=s++[80]
   ·refine(g (decide ((k3:Int)>0)) m3 h3).of_eq ?_;rw[lZ,kX,gu (m:=(jb zs m).length) (fl':=[]) hr2 rfl rfl,Tt hr,bM hr1,aN,eH (beq_iff_eq.2 hP),gu (m:=(jb zs m2).length) (fl':=[]) hr3 rfl rfl]
   ·by_cases hU:t=s++[85]
    ·refine(g (decide ((k3:Int)>0)) m3 h3).of_eq ?_;rw[lZ,kX,gu (m:=(jb zs m).length) (fl':=[]) hr2 rfl rfl,Tt hr,bM hr1,aN,cX (abr.2 hP),aN,eH (beq_iff_eq.2 hU),gu (m:=(jb zs m2).length) (fl':=[]) hr3 rfl rfl]
    ·refine(g false m2 h2).of_eq ?_;rw[lZ,kX,gu (m:=(jb zs m).length) (fl':=[]) hr2 rfl rfl,Tt hr,bM hr1,aN,cX (abr.2 hP),aN,cX (abr.2 hU)]
  ·refine(g false m2 h2).of_eq ?_;rw[lZ,kX,gu (m:=(jb zs m).length) (fl':=[]) hr2 rfl rfl,Tt hr,bp hr1]
theorem aat(hN:ZQ zs s u b l i N){m:Nat}(hp:Pk zs m):iK zs (VU s u b l (i:Int) (N:Int) true (pk zs m)):=by
 obtain⟨k,m2,hk,h2,hr2⟩:=hZ hp (m:=6) 6 rfl (by omega) (by omega);obtain⟨k3,m3,hk3,h3,hr3⟩:=hZ h2 (m:=3) 3 rfl (by omega) (by omega);obtain⟨t,m4,ht,h4,hr4⟩:=S6 h3 s hs;have w1:i64.wrap (1+(i:Int))=1+(i:Int):=bD;have hik:(0:Int)<=(i:Int)*(k3:Int)/\(i:Int)*(k3:Int)<=12:=by
  have h1:(i:Int)*(k3:Int)=((i*k3:Nat):Int):=by push_cast;rfl
  have h2:i*k3<=4*3:=Nat.mul_le_mul (by omega) (by omega);omega
 have w2:i64.wrap ((i:Int)*(k3:Int))=(i:Int)*(k3:Int):=bD;have w3:i64.wrap ((i:Int)*(k3:Int)*8)=(i:Int)*(k3:Int)*8:=bD;have w4:i64.wrap (1+(i:Int)+(i:Int)*(k3:Int)*8)=1+(i:Int)+(i:Int)*(k3:Int)*8:=bD;by_cases hk0:(k:Int)>0
 ·refine(Y1 hs hl hi5 hf hN (h:=decide ((k:Int)>0)) (id:=1+(i:Int)+(i:Int)*(k3:Int)*8) (t:=t) (nm:=[102]++[UInt8.ofNat (u8.wrap (i64.wrap (97+(i:Int)))).toNat]) h4 (by omega) ht (by simp)).of_eq ?_
  rw[uT,bQ,gu (m:=(jb zs m).length) (fl':=[]) hr2 rfl rfl,gu (m:=(jb zs m2).length) (fl':=[]) hr3 rfl rfl,kh (m:=(jb zs m3).length) (fl':=[]) hr4 rfl rfl,cX (by simpa using hk0),w1,w2,w3,w4]
 ·refine(Y1 hs hl hi5 hf hN (h:=decide ((k:Int)>0)) (id:=0) (t:=t) (nm:=[102]++[UInt8.ofNat (u8.wrap (i64.wrap (97+(i:Int)))).toNat]) h4 (by omega) ht (by simp)).of_eq ?_
  rw[uT,bQ,gu (m:=(jb zs m).length) (fl':=[]) hr2 rfl rfl,gu (m:=(jb zs m2).length) (fl':=[]) hr3 rfl rfl,kh (m:=(jb zs m3).length) (fl':=[]) hr4 rfl rfl,eH (by simpa using hk0)]
end
theorem EE{zs:List Int}{s:aE}{u b:Bool}{l:List D}{i N:Int}(hl:l.length<=5)(hf:∀x∈l,eX x){m:Nat}(hp:Pk zs m):iK zs (VU s u b l i N false (pk zs m)):=
 ⟨b,l,m,hl,hf,hp,by rw[uT,bH];rfl⟩
theorem Y2{zs:List Int}{s:aE}(hs:s.length<=100)(u:Bool){N:Nat}(hN:N<=5):∀(j i:Nat) (b:Bool) (l:List D) (m:Nat),i+j=max N 1->l.length=i->(∀x∈l,eX x)->Pk zs m->
  iK zs (Yd s u b l (i:Int) (N:Int) (pk zs m))
 |0,i,b,l,m,e,hl,hf,hp=>by
  have hend:iK zs (VU s u b l (i:Int) (N:Int) false (pk zs m)):=EE (by omega) hf hp;refine hend.of_eq ?_
  cases u with
  |true=>
   have e0:((i:Int)==0)=false:=abr.2 (by omega);rw[qh,bB,bQ,e0]
  |false=>rw[qh,bB,bH]
 |j+1,i,b,l,m,e,hl,hf,hp=>by
  have nx:ZQ zs s u b l i N:=λ x m' hx hm'=>Y2 hs u hN j (i+1) (b&&false) (l++[x]) m' (by omega) (by simp[hl]) (λ y hy=>by
   rcases List.mem_append.1 hy with hy|hy
   ·exact hf y hy
   ·simp only[abK]at hy;subst hy;exact hx) hm'
  have good:iK zs (VU s u b l (i:Int) (N:Int) true (pk zs m)):=aat hs hl (by omega) hf nx hp;by_cases hi:i<N
  ·refine good.of_eq ?_;rw[qh,bC]
  ·cases u with
   |true=>
    refine good.of_eq ?_;have e0:((i:Int)==0)=true:=beq_iff_eq.2 (by omega);rw[qh,bB,bQ,e0]
   |false=>
    refine(EE (u:=false) (s:=s) (b:=b) (i:=(i:Int)) (N:=(N:Int)) (by omega) hf hp).of_eq ?_;rw[qh,bB,bH]
theorem kD{zs:List Int}{n:Nat}(h:Pk zs n)(M:Int){most:Nat}(hM:M=(most:Int))(hm:most<=5)(s:aE)(hs:s.length<=100)(u:Bool):∃(b:Bool) (l:List D) (n':Nat),l.length<=5/\(∀x∈l,eX x)/\Pk zs n'/\
  rk prog bT (.call 53 [V.p 0 0,vi M,vs s,vb u] [pk zs n])=some (.d (.l b l),[pk zs n']):=by
 subst hM;have w1:=ca most;obtain⟨k,n1,hk,h1,hr⟩:=hZ h (m:=most+1) _ rfl (by omega) (by omega);obtain⟨b,l,n',q1,q2,q3,q4⟩:=Y2 hs u (N:=k) (by omega) (max k 1) 0 true [] n1 (by omega) rfl (by simp) h1;refine⟨b,l,n',q1,q2,q3,?_⟩;rw[y53,w1,gu (m:=2) (fl':=[]) hr];exact aM q4
theorem y26(f:Bool)(l:List D)(n:Int):EQ bT (.call 26 [.p 0 0] [aC [vl f l,vi n]]) (c1 (.call 24 [.p 0 0,vi 3] [aC [vl f l,vi n]]) 2 [] λ a c=>aI a λ e=>aR (VQ 0 e [.cells (dp [69] [] [] [] 2 0 0 0 true true true true [] [] [.g [.s [65],.b false,.i .i64 0]] []) [(9,3)],aC c])):=aF
theorem y25(f:Bool)(l:List D)(n:Int)(s:aE):EQ bT (.call 25 [.p 0 0,vs s] [aC [vl f l,vi n]]) (c1 (.call 53 [.p 0 0,vi 5,vs s,vb false] [aC [vl f l,vi n]]) 2 [] λ a c=>aL a λ e g=>c1 (.call 53 [.p 0 0,vi 2,vs s,vb false] [aC c]) c.length [] λ h j=>aL h λ k m=>c1 (.call 24 [.p 0 0,vi 4] [aC j]) j.length [] λ o q=>aI o λ r=>aR (Ve s 0 r [.cells (dp [86] [] [] [] 7 0 0 0 true true true true [] [] [] []) [(11,5)],aC (dp [88] [] [] [] 6 0 0 0 true k true true [] m [] []),aC (dp [81] [] [] [] 4 0 0 0 true e true true [] g [] []),aC q])):=aF
theorem y11(f:Bool)(l:List D)(n:Int):EQ bT (.call 11 [.p 0 0] [aC [vl f l,vi n]]) (c1 (.call 24 [.p 0 0,vi 3] [aC [vl f l,vi n]]) 2 [] λ a b=>aI a λ c=>aV (c==0) (c1 (.call 25 [.p 0 0,vs [98,97,115,101,46]] [aC b]) b.length [] λ e h=>aL e λ j k=>c1 (.call 26 [.p 0 0] [aC h]) h.length [] λ m o=>aL m λ q r => .ret (vl true [.g [.l true [.s [98,97,115,101]],.l true [.g [.s [103,111],.s [97,46,98]]],.l j k],.g [.l true [],.l true [],.l q r]],[aC o])) (c1 (.call 26 [.p 0 0] [aC b]) b.length [] λ t zu=>aL t λ v w=>c1 (.call 25 [.p 0 0,vs []] [aC zu]) zu.length [] λ x y=>aL x λ z a0=>aO v (aO (bA 12 w) (aO (bA 12 a0) (aO (v||dV a0) (aO (decide (w.length+a0.length<=4294967296)) (.ret (vl true [.g [.l true [],.l true [],.l (v&&a0.isEmpty) (w++a0)]],[aC y])))))))):=aF
theorem nG(n0 n1 n2:Int)(l3 l4:aE)(n5 n6 n7:Int)(l8:aE)(b9:Bool)(l10:List D)(b11:Bool)(l12:List D)(b13:Bool)(l14:List D)(l15:aE)(b16:Bool)(l17:List D)(l18:List V):EQ bT (VQ n0 n1 [.cells (dp l3 l4 l8 l15 n2 n5 n6 n7 b9 b11 b13 b16 l10 l12 l14 l17) [(9,3)],aC l18]) (aV (decide (n0<n1)) (c1 (.call 24 [.p 0 0,vi 2] [aC l18]) l18.length [] λ a c=>aI a λ e=>aV (e==0) (c1 (.call 24 [.p 0 0,vi 9] [aC c]) c.length [] λ f h=>aI f λ j=>aR (RS n0 n1 [aC (OC [UInt8.ofNat (u8.wrap (i64.wrap (66+n0))).toNat] (i64.wrap (i64.wrap (5+i64.wrap (10*n0))+j)) true),.cells (dp l3 l4 l8 l15 n2 n5 n6 n7 b9 b11 b13 b16 l10 l12 l14 l17) [(9,3)],aC h])) (aR (RS n0 n1 [aC (OC [UInt8.ofNat (u8.wrap (i64.wrap (66+n0))).toNat] 0 false),.cells (dp l3 l4 l8 l15 n2 n5 n6 n7 b9 b11 b13 b16 l10 l12 l14 l17) [(9,3)],aC c]))) (c1 (.call 24 [.p 0 0,vi 4] [aC l18]) l18.length [] λ k m=>aI k λ n=>eC [.s [105,51,50],.s [108,105,115,116,60,69,62],.s [115,116,114,105,110,103],.s [109,97,112,60,115,116,114,105,110,103,44,105,54,52,62]] n 1 0 λ o=>fJ o λ q=>aV (q==[105,51,50]) (c1 (.call 24 [.p 0 0,vi 99] [aC m]) m.length [] λ r t=>aI r λ zu=>aR (N4 [aC (dp [67] [84] [] [] 3 1 zu 0 true true true true [] [] [] []),aC (dp [84] q [] [] 1 0 0 0 true true true true [] [] [] []),.cells (dp l3 l4 l8 l15 n2 n5 n6 n7 b9 b11 b13 b16 l10 l12 l14 l17) [(9,3)],aC t])) (aV (q==[108,105,115,116,60,69,62]) (aR (N4 [aC (dp [67] [84] [] [] 3 5 0 0 true true true true [.g [.i .i64 4,.i .i64 0,.i .u64 0,.s [69,46,65],.l true []],.g [.i .i64 1,.i .i64 0,.i .u64 0,.s [],.l true []]] [] [] []),aC (dp [84] q [] [] 1 0 0 0 true true true true [] [] [] []),.cells (dp l3 l4 l8 l15 n2 n5 n6 n7 b9 b11 b13 b16 l10 l12 l14 l17) [(9,3)],aC m])) (aV (q==Up) (aR (N4 [aC (dp [67] [84] [99] [] 3 3 0 0 true true true true [] [] [] []),aC (dp [84] q [] [] 1 0 0 0 true true true true [] [] [] []),.cells (dp l3 l4 l8 l15 n2 n5 n6 n7 b9 b11 b13 b16 l10 l12 l14 l17) [(9,3)],aC m])) (aR (N4 [aC (dp [67] [84] [] [] 3 5 0 0 true true true true [] [] [] []),aC (dp [84] q [] [] 1 0 0 0 true true true true [] [] [] []),.cells (dp l3 l4 l8 l15 n2 n5 n6 n7 b9 b11 b13 b16 l10 l12 l14 l17) [(9,3)],aC m])))))):=aF
theorem nF(l0:aE)(n1 n2 n3:Int)(l4 l5:aE)(n6 n7 n8:Int)(l9:aE)(b10:Bool)(l11:List D)(b12:Bool)(l13:List D)(b14:Bool)(l15:List D)(l16:aE)(b17:Bool)(l18:List D)(n19:Int)(l20 l21:aE)(n22 n23 n24:Int)(l25:aE)(b26:Bool)(l27:List D)(b28:Bool)(l29:List D)(b30:Bool)(l31:List D)(l32:aE)(b33:Bool)(l34:List D)(n35:Int)(l36 l37:aE)(n38 n39 n40:Int)(l41:aE)(b42:Bool)(l43:List D)(b44:Bool)(l45:List D)(b46:Bool)(l47:List D)(l48:aE)(b49:Bool)(l50:List D)(l51:List V):EQ bT (Ve l0 n1 n2 [.cells (dp l4 l5 l9 l16 n3 n6 n7 n8 b10 b12 b14 b17 l11 l13 l15 l18) [(11,5)],aC (dp l20 l21 l25 l32 n19 n22 n23 n24 b26 b28 b30 b33 l27 l29 l31 l34),aC (dp l36 l37 l41 l48 n35 n38 n39 n40 b42 b44 b46 b49 l43 l45 l47 l50),aC l51]) (aV (decide (n1<n2)) (c1 (.call 54 [.p 0 0,vs l0] [aC l51]) l51.length [] λ a c=>aL a λ e f=>c1 (.call 24 [.p 0 0,vi 4] [aC c]) c.length [] λ h j=>aI h λ k=>aV (k==0) (aR (YA l0 n1 n2 [aC (zl ([109]++[UInt8.ofNat (u8.wrap (i64.wrap (48+n1))).toNat]) [118,111,105,100] true e true f []),.cells (dp l4 l5 l9 l16 n3 n6 n7 n8 b10 b12 b14 b17 l11 l13 l15 l18) [(11,5)],aC (dp l20 l21 l25 l32 n19 n22 n23 n24 b26 b28 b30 b33 l27 l29 l31 l34),aC (dp l36 l37 l41 l48 n35 n38 n39 n40 b42 b44 b46 b49 l43 l45 l47 l50),aC j])) (aV (k==1) (aR (YA l0 n1 n2 [aC (zl ([109]++[UInt8.ofNat (u8.wrap (i64.wrap (48+n1))).toNat]) [118,111,105,100] false e true f [.g [.b true,.i .i64 1,.i .i64 0,.s [88],.s [120],.b false,.i .i64 0,.i .i64 0,.i .u64 0,.s [],.l true []]]),.cells (dp l4 l5 l9 l16 n3 n6 n7 n8 b10 b12 b14 b17 l11 l13 l15 l18) [(11,5)],aC (dp l20 l21 l25 l32 n19 n22 n23 n24 b26 b28 b30 b33 l27 l29 l31 l34),aC (dp l36 l37 l41 l48 n35 n38 n39 n40 b42 b44 b46 b49 l43 l45 l47 l50),aC j])) (c1 (.call 55 [.p 0 0,vs l0,vi 0] [aC j]) j.length [] λ m n=>aS m λ o=>c1 (.call 24 [.p 0 0,vi 2] [aC n]) n.length [] λ q r=>aI q λ t=>aV (t==0) (aR (YA l0 n1 n2 [aC (zl ([109]++[UInt8.ofNat (u8.wrap (i64.wrap (48+n1))).toNat]) o false e true f [.g [.b true,.i .i64 1,.i .i64 0,.s [88],.s [120],.b false,.i .i64 0,.i .i64 0,.i .u64 0,.s [],.l true []]]),.cells (dp l4 l5 l9 l16 n3 n6 n7 n8 b10 b12 b14 b17 l11 l13 l15 l18) [(11,5)],aC (dp l20 l21 l25 l32 n19 n22 n23 n24 b26 b28 b30 b33 l27 l29 l31 l34),aC (dp l36 l37 l41 l48 n35 n38 n39 n40 b42 b44 b46 b49 l43 l45 l47 l50),aC r])) (aR (YA l0 n1 n2 [aC (zl ([109]++[UInt8.ofNat (u8.wrap (i64.wrap (48+n1))).toNat]) o false e true f []),.cells (dp l4 l5 l9 l16 n3 n6 n7 n8 b10 b12 b14 b17 l11 l13 l15 l18) [(11,5)],aC (dp l20 l21 l25 l32 n19 n22 n23 n24 b26 b28 b30 b33 l27 l29 l31 l34),aC (dp l36 l37 l41 l48 n35 n38 n39 n40 b42 b44 b46 b49 l43 l45 l47 l50),aC r]))))) (.ret (vl true [.g [.i .i64 n35,.s l36,.s l37,.i .i64 n38,.i .i64 n39,.i .u64 n40,.s l41,.l b42 l43,.l b44 l45,.l b46 l47,.s l48,.l b49 l50],.g [.i .i64 n19,.s l20,.s l21,.i .i64 n22,.i .i64 n23,.i .u64 n24,.s l25,.l b26 l27,.l b28 l29,.l b30 l31,.s l32,.l b33 l34],.g [.i .i64 n3,.s l4,.s l5,.i .i64 n6,.i .i64 n7,.i .u64 n8,.s l9,.l b10 l11,.l b12 l13,.l b14 l15,.s l16,.l b17 l18],.g [.i .i64 7,.s [87],.s [],.i .i64 0,.i .i64 0,.i .u64 0,.s [],.l true [],.l true [],.l true [],.s [86],.l true [.g [.s [111,119,110],.b false,.s [105,51,50],.l true [],.l true []]]]],[aC l51]))):=aF
theorem I9(n0 n1:Int)(l2:aE)(b3:Bool)(n4 n5:Int)(l6 l7:aE)(n8 n9 n10:Int)(l11:aE)(b12:Bool)(l13:List D)(b14:Bool)(l15:List D)(b16:Bool)(l17:List D)(l18:aE)(b19:Bool)(l20:List D)(l21:List V):EQ bT (RS n0 n1 [aC (OC l2 n4 b3),.cells (dp l6 l7 l11 l18 n5 n8 n9 n10 b12 b14 b16 b19 l13 l15 l17 l20) [(9,3)],aC l21]) (aO (bA 3 l17) (aO (b16||true) (aO (decide (l17.length+1<=4294967296)) (aR (VQ (i64.wrap (n0+1)) n1 [.cells (dp l6 l7 l11 l18 n5 n8 n9 n10 b12 b14 (b16&&false) b19 l13 l15 (l17++[.g [.s l2,.b b3,.i .i64 n4]]) l20) [(9,3)],aC l21]))))):=aF
theorem Oz(n0:Int)(l1 l2:aE)(n3 n4 n5:Int)(l6:aE)(b7:Bool)(l8:List D)(b9:Bool)(l10:List D)(b11:Bool)(l12:List D)(l13:aE)(b14:Bool)(l15:List D)(n16:Int)(l17 l18:aE)(n19 n20 n21:Int)(l22:aE)(b23:Bool)(l24:List D)(b25:Bool)(l26:List D)(b27:Bool)(l28:List D)(l29:aE)(b30:Bool)(l31:List D)(n32:Int)(l33 l34:aE)(n35 n36 n37:Int)(l38:aE)(b39:Bool)(l40:List D)(b41:Bool)(l42:List D)(YN:Bool)(l44:List D)(l45:aE)(b46:Bool)(l47:List D)(l48:List V):EQ bT (N4 [aC (dp l1 l2 l6 l13 n0 n3 n4 n5 b7 b9 b11 b14 l8 l10 l12 l15),aC (dp l17 l18 l22 l29 n16 n19 n20 n21 b23 b25 b27 b30 l24 l26 l28 l31),.cells (dp l33 l34 l38 l45 n32 n35 n36 n37 b39 b41 YN b46 l40 l42 l44 l47) [(9,3)],aC l48]) (c1 (.call 53 [.p 0 0,vi 4,vs [],vb false] [aC l48]) l48.length [] λ a c=>aL a λ e f=>c1 (.call 53 [.p 0 0,vi 3,vs [],vb true] [aC c]) c.length [] λ h j=>aL h λ k m => .ret (vl true [.g [.i .i64 n32,.s l33,.s l34,.i .i64 n35,.i .i64 n36,.i .u64 n37,.s l38,.l b39 l40,.l b41 l42,.l YN l44,.s l45,.l b46 l47],.g [.i .i64 n16,.s l17,.s l18,.i .i64 n19,.i .i64 n20,.i .u64 n21,.s l22,.l b23 l24,.l b25 l26,.l b27 l28,.s l29,.l b30 l31],.g [.i .i64 n0,.s l1,.s l2,.i .i64 n3,.i .i64 n4,.i .u64 n5,.s l6,.l b7 l8,.l b9 l10,.l b11 l12,.s l13,.l b14 l15],.g [.i .i64 4,.s [80],.s [],.i .i64 0,.i .i64 0,.i .u64 0,.s [],.l true [],.l e f,.l true [],.s [],.l true []],.g [.i .i64 5,.s [85],.s [],.i .i64 0,.i .i64 0,.i .u64 0,.s [],.l true [],.l k m,.l true [],.s [],.l true []]],[aC j])):=aF
theorem GF(l0:aE)(n1 n2:Int)(l3:aE)(b4:Bool)(l5:aE)(b6:Bool)(l7:List D)(b8:Bool)(l9:List D)(n10:Int)(l11 l12:aE)(n13 n14 n15:Int)(l16:aE)(b17:Bool)(l18:List D)(b19:Bool)(l20:List D)(b21:Bool)(l22:List D)(l23:aE)(b24:Bool)(l25:List D)(n26:Int)(l27 l28:aE)(n29 n30 n31:Int)(l32:aE)(b33:Bool)(l34:List D)(b35:Bool)(l36:List D)(b37:Bool)(l38:List D)(l39:aE)(b40:Bool)(l41:List D)(n42:Int)(l43 l44:aE)(n45 n46 n47:Int)(l48:aE)(b49:Bool)(l50:List D)(b51:Bool)(l52:List D)(b53:Bool)(l54:List D)(l55:aE)(b56:Bool)(l57:List D)(l58:List V):EQ bT (YA l0 n1 n2 [aC (zl l3 l5 b4 b6 b8 l7 l9),.cells (dp l11 l12 l16 l23 n10 n13 n14 n15 b17 b19 b21 b24 l18 l20 l22 l25) [(11,5)],aC (dp l27 l28 l32 l39 n26 n29 n30 n31 b33 b35 b37 b40 l34 l36 l38 l41),aC (dp l43 l44 l48 l55 n42 n45 n46 n47 b49 b51 b53 b56 l50 l52 l54 l57),aC l58]) (aO (bA 5 l25) (aO (b24||true) (aO (decide (l25.length+1<=4294967296)) (aR (Ve l0 (i64.wrap (n1+1)) n2 [.cells (dp l11 l12 l16 l23 n10 n13 n14 n15 b17 b19 b21 (b24&&false) l18 l20 l22 (l25++[.g [.s l3,.b b4,.s l5,.l b6 l7,.l b8 l9]])) [(11,5)],aC (dp l27 l28 l32 l39 n26 n29 n30 n31 b33 b35 b37 b40 l34 l36 l38 l41),aC (dp l43 l44 l48 l55 n42 n45 n46 n47 b49 b51 b53 b56 l50 l52 l54 l57),aC l58]))))):=aF
theorem uN{f:Task->Option Out}{t:Task}{b:Bool}{l:List D}{cs:List V}{fl fl':Fl}{m:Nat}{K:List V->Bool->List D->Tr}(h:f t=some (.d (.l b l),[.cells cs fl]))(hm:cs.length=m:=by rfl)(hf:(fl==fl')=true:=by rfl):
  aD f (.call t λ o=>eE o.snd λ x l2=>dA x λ c g=>aO (c.length==m) (aO (g==fl') (iY l2 (bG o.fst λ d=>gX d λ y z=>K c y z))))=aD f (K cs b l):=by
 rw[cr h];show aD f (aO (cs.length==m) (aO (fl==fl') (K cs b l)))=_;rw[hm,abq,aQ,hf,aQ]
def nJ(x:D):Prop:=∃(nm:aE) (h:Bool) (n:Int),x = .g [.s nm,.b h,.i .i64 n]/\nm.length<=1/\0<=n/\n<=1000
def qj(x:D):Prop:=∃(nm:aE) (ow:Bool) (ret:aE) (ab:Bool) (al:List D) (tb:Bool) (tl:List D),x = .g [.s nm,.b ow,.s ret,.l ab al,.l tb tl]/\nm.length<=3/\ret.length<=442/\al.length<=2/\tl.length<=1/\(∀y∈al,eX y)/\∀y∈tl,eX y
def Mc(x:D):Prop:=∃(kd:Int) (nm ty:aE) (ck cn cu:Int) (cs:aE) (cb:Bool) (cl:List D) (fb:Bool) (fl:List D) (mb:Bool) (ml:List D) (ex:aE) (tb:Bool) (tl:List D),
 x = .g [.i .i64 kd,.s nm,.s ty,.i .i64 ck,.i .i64 cn,.i .u64 cu,.s cs,.l cb cl,.l fb fl,.l mb ml,.s ex,.l tb tl]/\1<=kd/\kd<=7/\nm.length<=1/\ty.length<=15/\
  0<=ck/\ck<=5/\(kd=3->1<=ck)/\-1000<=cn/\cn<=1000/\0<=cu/\cu<18446744073709551616/\cs.length<=1/\cl.length<=2/\(∀y∈cl,BU y)/\
  fl.length<=5/\(∀y∈fl,eX y)/\ml.length<=3/\(∀y∈ml,nJ y)/\ex.length<=1/\tl.length<=3/\(∀y∈tl,qj y)/\
  (kd=2->fl=[]/\tl=[]/\ex=[])/\(4<=kd/\kd<=6->ml=[]/\tl=[]/\ex=[])/\(kd=7->fl=[]/\ml=[])
abbrev ec(b:Bool)(ml:List D):Ob := .cells (dp [69] [] [] [] 2 0 0 0 true true b true [] [] ml []) [(9,3)]
abbrev tyc(ty:aE):Ob := .cells (dp [84] ty [] [] 1 0 0 0 true true true true [] [] [] []) []
abbrev coc(ck cn:Int)(cs:aE)(cl:List D):Ob := .cells (dp [67] [84] cs [] 3 ck cn 0 true true true true cl [] [] []) []
def se(zs:List Int)(t:Task):Prop:=∃(l:List D) (n':Nat),l.length=5/\(∀x∈l,Mc x)/\Pk zs n'/\rk prog bT t=some (.d (.l true l),[pk zs n'])
theorem se.of_eq{zs:List Int}{t t2:Task}(h:se zs t2)(e:rk prog bT t=aD (rk prog bT) (Tr.call t2 Tr.ret)):se zs t:=by obtain⟨l,n,h1,h2,h3,h4⟩:=h;exact⟨l,n,h1,h2,h3,by rw[e];exact aM h4⟩
theorem TL{zs:List Int}{m:Nat}(hp:Pk zs m){ck cn:Int}{cs ty:aE}{cl:List D}{b:Bool}{ml:List D}(h1:1<=ck/\ck<=5)(h2:-1000<=cn/\cn<=1000)(h3:cs.length<=1)(h4:cl.length<=2)(h5:∀y∈cl,BU y)(h6:ty.length<=15)(h7:ml.length<=3)(h8:∀y∈ml,nJ y):
  se zs (N4 [coc ck cn cs cl,tyc ty,ec b ml,pk zs m]):=by
 obtain⟨b1,l1,m1,p1,p2,p3,p4⟩:=kD hp 4 (most:=4) rfl (by omega) [] (by simp) false;obtain⟨b2,l2,m2,q1,q2,q3,q4⟩:=kD p3 3 (most:=3) rfl (by omega) [] (by simp) true;refine⟨_,m2,rfl,?_,q3,by rw[Oz,uN (m:=(jb zs m).length) (fl':=[]) p4 rfl rfl,uN (m:=(jb zs m1).length) (fl':=[]) q4 rfl rfl];rfl⟩;intro x hx;simp only[List.mem_cons,List.not_mem_nil,or_false]at hx;rcases hx with rfl|rfl|rfl|rfl|rfl
 ·exact⟨2,_,_,0,0,0,_,_,_,_,_,_,_,_,_,_,rfl,by omega,by omega,by simp,by simp,by omega,by omega,by omega,by omega,by omega,by omega,by omega,by simp,by simp,by simp,by simp,by simp,h7,h8,by simp,by simp,by simp,λ _=>⟨rfl,rfl,rfl⟩,λ h=>by omega,λ h=>by omega⟩
 ·exact⟨1,_,_,0,0,0,_,_,_,_,_,_,_,_,_,_,rfl,by omega,by omega,by simp,h6,by omega,by omega,by omega,by omega,by omega,by omega,by omega,by simp,by simp,by simp,by simp,by simp,by simp,by simp,by simp,by simp,by simp,λ h=>by omega,λ h=>by omega,λ h=>by omega⟩
 ·exact⟨3,_,_,ck,cn,0,_,_,_,_,_,_,_,_,_,_,rfl,by omega,by omega,by simp,by simp,by omega,by omega,λ _=>h1.1,by omega,by omega,by omega,by omega,h3,h4,h5,by simp,by simp,by simp,by simp,by simp,by simp,by simp,λ h=>by omega,λ h=>by omega,λ h=>by omega⟩
 ·exact⟨4,_,_,0,0,0,_,_,_,_,_,_,_,_,_,_,rfl,by omega,by omega,by simp,by simp,by omega,by omega,by omega,by omega,by omega,by omega,by omega,by simp,by simp,by simp,p1,p2,by simp,by simp,by simp,by simp,by simp,λ h=>by omega,λ _=>⟨rfl,rfl,rfl⟩,λ h=>by omega⟩
 ·exact⟨5,_,_,0,0,0,_,_,_,_,_,_,_,_,_,_,rfl,by omega,by omega,by simp,by simp,by omega,by omega,by omega,by omega,by omega,by omega,by omega,by simp,by simp,by simp,q1,q2,by simp,by simp,by simp,by simp,by simp,λ h=>by omega,λ _=>⟨rfl,rfl,rfl⟩,λ h=>by omega⟩
abbrev Yc(i N:Int)(o1 o2:Ob):Task:=VQ i N [o1,o2]
theorem Nc{l:List D}(h:∀x∈l,nJ x):bA 3 l=true:=by
 cases l with
 |nil=>rfl
 |cons x l=>
  obtain⟨_,_,_,rfl,_⟩:=h x (by simp);rfl
theorem YM{zs:List Int}{m:Nat}{nm:aE}{h:Bool}{n:Int}{b:Bool}{ml:List D}{i N:Nat}(hi:i<=5)(hl:ml.length<=5)(hm:∀y∈ml,nJ y)
  (hg:se zs (Yc ((i+1:Nat):Int) (N:Int) (ec (b&&false) (ml++[D.g [.s nm,.b h,.i .i64 n]])) (pk zs m))):
  se zs (.at_ 26 1 (aJ 3659) (sv 83 [(0,V.p 0 0),(3,V.p 1 0),(4,vi (i:Int)),(5,vi (N:Int)),(6,V.p 2 0)]) []
   [aC (OC nm n h),ec b ml,pk zs m]):=by
 refine hg.of_eq ?_;have w1:=ca i;rw[I9,Nc hm,aQ,Bool.or_true,aQ,aN,w1]
theorem YN{zs:List Int}{N:Nat}(hN:N<=2):∀(j i:Nat) (b:Bool) (ml:List D) (m:Nat),i+j=N->ml.length=i+1->(∀y∈ml,nJ y)->Pk zs m->se zs (Yc (i:Int) (N:Int) (ec b ml) (pk zs m))
 |0,i,b,ml,m,e,hl,hm,hp=>by
  obtain⟨k,m2,hk,h2,hr2⟩:=hZ hp (m:=4) 4 rfl (by omega) (by omega);have hx:∃ty:aE,([D.s [105,51,50],D.s [108,105,115,116,60,69,62],D.s [115,116,114,105,110,103],D.s [109,97,112,60,115,116,114,105,110,103,44,105,54,52,62]]:List D)[k]?=some (.s ty)/\ty.length<=15:=by
   rcases k with _|_|_|_|k
   all_goals first
    |(refine⟨_,rfl,?_⟩;simp;done)
    |omega
  obtain⟨ty,hty,hlen⟩:=hx;obtain⟨k3,m3,hk3,h3,hr3⟩:=hZ h2 (m:=99) 99 rfl (by omega) (by omega);by_cases e1:ty=[105,51,50]
  ·refine(TL h3 (ck:=1) (cn:=(k3:Int)) (cs:=[]) (ty:=ty) (cl:=[]) (b:=b) (ml:=ml) (by omega) (by omega) (by simp) (by simp) (by simp) hlen (by omega) hm).of_eq ?_
   rw[nG,bB,gu (m:=(jb zs m).length) (fl':=[]) hr2 rfl rfl,qi hty,eH (beq_iff_eq.2 e1),gu (m:=(jb zs m2).length) (fl':=[]) hr3 rfl rfl]
  ·by_cases e2:ty=[108,105,115,116,60,69,62]
   ·refine(TL h2 (ck:=5) (cn:=0) (cs:=[]) (ty:=ty) (cl:=[D.g [D.i .i64 4,D.i .i64 0,D.i .u64 0,D.s [69,46,65],D.l true []],D.g [D.i .i64 1,D.i .i64 0,D.i .u64 0,D.s [],D.l true []]]) (b:=b) (ml:=ml) (by omega) (by omega) (by simp) (by simp) (λ y hy=>?_) hlen (by omega) hm).of_eq ?_
    ·simp only[List.mem_cons,List.not_mem_nil,or_false]at hy;rcases hy with rfl|rfl
     ·exact k8 (by omega) (by omega) (by omega) (by simp)
     ·exact k8 (by omega) (by omega) (by omega) (by simp)
    ·rw[nG,bB,gu (m:=(jb zs m).length) (fl':=[]) hr2 rfl rfl,qi hty,cX (abr.2 e1),eH (beq_iff_eq.2 e2)]
   ·by_cases e3:ty=[115,116,114,105,110,103]
    ·refine(TL h2 (ck:=3) (cn:=0) (cs:=[99]) (ty:=ty) (cl:=[]) (b:=b) (ml:=ml) (by omega) (by omega) (by simp) (by simp) (by simp) hlen (by omega) hm).of_eq ?_
     rw[nG,bB,gu (m:=(jb zs m).length) (fl':=[]) hr2 rfl rfl,qi hty,cX (abr.2 e1),cX (abr.2 e2),eH (beq_iff_eq.2 e3)]
    ·refine(TL h2 (ck:=5) (cn:=0) (cs:=[]) (ty:=ty) (cl:=[]) (b:=b) (ml:=ml) (by omega) (by omega) (by simp) (by simp) (by simp) hlen (by omega) hm).of_eq ?_
     rw[nG,bB,gu (m:=(jb zs m).length) (fl':=[]) hr2 rfl rfl,qi hty,cX (abr.2 e1),cX (abr.2 e2),cX (abr.2 e3)]
 |j+1,i,b,ml,m,e,hl,hm,hp=>by
  obtain⟨k,m2,hk,h2,hr2⟩:=hZ hp (m:=2) 2 rfl (by omega) (by omega);obtain⟨k3,m3,hk3,h3,hr3⟩:=hZ h2 (m:=9) 9 rfl (by omega) (by omega);have w1:i64.wrap (10*(i:Int))=10*(i:Int):=bD;have w2:i64.wrap (5+10*(i:Int))=5+10*(i:Int):=bD;have w3:i64.wrap (5+10*(i:Int)+(k3:Int))=5+10*(i:Int)+(k3:Int):=bD
  have nx:∀(nm:aE) (h:Bool) (n:Int) (m':Nat),nm.length<=1->0<=n->n<=1000->Pk zs m'->se zs (Yc ((i+1:Nat):Int) (N:Int) (ec (b&&false) (ml++[D.g [.s nm,.b h,.i .i64 n]])) (pk zs m')):=λ nm h n m' a1 a2 a3 hm'=>
   YN hN j (i+1) (b&&false) _ m' (by omega) (by simp[hl]) (λ y hy=>by
    rcases List.mem_append.1 hy with hy|hy
    ·exact hm y hy
    ·simp only[abK]at hy;subst hy;exact⟨_,_,_,rfl,a1,a2,a3⟩) hm'
  by_cases hk0:k=0
  ·refine(YM (b:=b) (ml:=ml) (by omega) (by omega) hm (nx [UInt8.ofNat (u8.wrap (i64.wrap (66+(i:Int)))).toNat] true (5+10*(i:Int)+(k3:Int)) m3 (by simp) (by omega) (by omega) h3)).of_eq ?_
   rw[nG,bC,gu (m:=(jb zs m).length) (fl':=[]) hr2 rfl rfl,bM,gu (m:=(jb zs m2).length) (fl':=[]) hr3 rfl rfl,w1,w2,w3]
  ·refine(YM (b:=b) (ml:=ml) (by omega) (by omega) hm (nx [UInt8.ofNat (u8.wrap (i64.wrap (66+(i:Int)))).toNat] false 0 m2 (by simp) (by omega) (by omega) h2)).of_eq ?_
   rw[nG,bC,gu (m:=(jb zs m).length) (fl':=[]) hr2 rfl rfl,bp]
theorem rl{zs:List Int}{n:Nat}(h:Pk zs n):se zs (.call 26 [V.p 0 0] [pk zs n]):=by
 obtain⟨k,n1,hk,h1,hr⟩:=hZ h (m:=3) 3 rfl (by omega) (by omega);refine(YN (N:=k) (by omega) k 0 true [D.g [D.s [65],D.b false,D.i .i64 0]] n1 (by omega) rfl (λ y hy=>?_) h1).of_eq ?_
 ·simp only[abK]at hy;subst hy;exact⟨_,_,_,rfl,by simp,by omega,by omega⟩
 ·rw[y26,gu (m:=2) (fl':=[]) hr];rfl
abbrev vc(b:Bool)(l:List D):Ob := .cells (dp [86] [] [] [] 7 0 0 0 true true true b [] [] [] l) [(11,5)]
abbrev xc(b:Bool)(l:List D):Ob := .cells (dp [88] [] [] [] 6 0 0 0 true b true true [] l [] []) []
abbrev qc(b:Bool)(l:List D):Ob := .cells (dp [81] [] [] [] 4 0 0 0 true b true true [] l [] []) []
abbrev mc(nm:aE)(ow:Bool)(ret:aE)(ab:Bool)(al:List D)(tl:List D):Ob := .cells (zl nm ret ow ab true al tl) []
def uW(zs:List Int)(t:Task):Prop:=∃(l:List D) (n':Nat),l.length=4/\(∀x∈l,Mc x)/\Pk zs n'/\rk prog bT t=some (.d (.l true l),[pk zs n'])
theorem uW.of_eq{zs:List Int}{t t2:Task}(h:uW zs t2)(e:rk prog bT t=aD (rk prog bT) (Tr.call t2 Tr.ret)):uW zs t:=by obtain⟨l,n,h1,h2,h3,h4⟩:=h;exact⟨l,n,h1,h2,h3,by rw[e];exact aM h4⟩
abbrev ZD(s:aE)(i N:Int)(v x q o:Ob):Task:=Ve s i N [v,x,q,o]
abbrev ZB(s:aE)(i N:Int)(m v x q o:Ob):Task:=YA s i N [m,v,x,q,o]
theorem HU{l:List D}(h:∀x∈l,qj x):bA 5 l=true:=by
 cases l with
 |nil=>rfl
 |cons x l=>
  obtain⟨_,_,_,_,_,_,_,rfl,_⟩:=h x (by simp);rfl
def ZX:D:=D.g [D.b true,D.i .i64 1,D.i .i64 0,D.s [88],D.s [120],D.b false,D.i .i64 0,D.i .i64 0,D.i .u64 0,D.s [],D.l true []]
theorem YX:eX ZX:=⟨true,1,0,[88],[120],false,0,0,0,[],rfl,by omega,by omega,by omega,by omega,by simp,by simp,by simp,by omega,by omega,by omega,by omega,by omega,by omega,by simp⟩
theorem r14{zs:List Int}{s:aE}{b bx bq:Bool}{l lx lq:List D}{i N m:Nat}(hi:i<=5)(hl:l.length<=5)(hm:∀y∈l,qj y){nm ret:aE}{ow ab:Bool}{al tl:List D}
  (hg:uW zs (ZD s ((i+1:Nat):Int) (N:Int) (vc (b&&false) (l++[D.g [.s nm,.b ow,.s ret,.l ab al,.l true tl]])) (xc bx lx) (qc bq lq) (pk zs m))):
  uW zs (ZB s (i:Int) (N:Int) (mc nm ow ret ab al tl) (vc b l) (xc bx lx) (qc bq lq) (pk zs m)):=by
 refine hg.of_eq ?_;have w1:=ca i;rw[GF,HU hm,aQ,Bool.or_true,aQ,aN,w1]
theorem Zn{zs:List Int}{s:aE}(hs:s.length<=100){bx bq:Bool}{lx lq:List D}(hx:lx.length<=5/\∀y∈lx,eX y)(hq:lq.length<=5/\∀y∈lq,eX y){N:Nat}(hN:N<=3):
  ∀(j i:Nat) (b:Bool) (l:List D) (m:Nat),i+j=N->l.length=i->(∀y∈l,qj y)->Pk zs m->uW zs (ZD s (i:Int) (N:Int) (vc b l) (xc bx lx) (qc bq lq) (pk zs m))
 |0,i,b,l,m,e,hl,hm,hp=>by
  refine⟨_,m,rfl,?_,hp,by rw[nF,bB];rfl⟩;intro x hx';simp only[List.mem_cons,List.not_mem_nil,or_false]at hx';rcases hx' with rfl|rfl|rfl|rfl
  ·exact⟨4,_,_,0,0,0,_,_,_,_,_,_,_,_,_,_,rfl,by omega,by omega,by simp,by simp,by omega,by omega,by omega,by omega,by omega,by omega,by omega,by simp,by simp,by simp,hq.1,hq.2,by simp,by simp,by simp,by simp,by simp,λ h=>by omega,λ _=>⟨rfl,rfl,rfl⟩,λ h=>by omega⟩
  ·exact⟨6,_,_,0,0,0,_,_,_,_,_,_,_,_,_,_,rfl,by omega,by omega,by simp,by simp,by omega,by omega,by omega,by omega,by omega,by omega,by omega,by simp,by simp,by simp,hx.1,hx.2,by simp,by simp,by simp,by simp,by simp,λ h=>by omega,λ _=>⟨rfl,rfl,rfl⟩,λ h=>by omega⟩
  ·exact⟨7,_,_,0,0,0,_,_,_,_,_,_,_,_,_,_,rfl,by omega,by omega,by simp,by simp,by omega,by omega,by omega,by omega,by omega,by omega,by omega,by simp,by simp,by simp,by simp,by simp,by simp,by simp,by simp,by omega,hm,λ h=>by omega,λ h=>by omega,λ _=>⟨rfl,rfl⟩⟩
  ·exact⟨7,_,_,0,0,0,_,_,_,_,_,_,_,_,_,_,rfl,by omega,by omega,by simp,by simp,by omega,by omega,by omega,by omega,by omega,by omega,by omega,by simp,by simp,by simp,by simp,by simp,by simp,by simp,by simp,by simp,λ y hy=>by
    simp only[abK]at hy;subst hy
    exact⟨_,_,_,_,_,_,_,rfl,by simp,by simp,by simp,by simp,by simp,by simp⟩,λ h=>by omega,λ h=>by omega,λ _=>⟨rfl,rfl⟩⟩
 |j+1,i,b,l,m,e,hl,hm,hp=>by
  obtain⟨ab,al,m1,a1,a2,h1,hr1⟩:=WK hp s hs;obtain⟨k,m2,hk,h2,hr2⟩:=hZ h1 (m:=4) 4 rfl (by omega) (by omega);obtain⟨t,m3,ht,h3,hr3⟩:=S6 h2 s hs;obtain⟨k4,m4,hk4,h4,hr4⟩:=hZ h3 (m:=2) 2 rfl (by omega) (by omega);have nx:∀(nm:aE) (ow:Bool) (ret:aE) (tl:List D) (m':Nat),nm.length<=3->ret.length<=442->tl.length<=1->(∀y∈tl,eX y)->Pk zs m'->
    uW zs (ZB s (i:Int) (N:Int) (mc nm ow ret ab al tl) (vc b l) (xc bx lx) (qc bq lq) (pk zs m')):=λ nm ow ret tl m' q1 q2 q3 q4 hm'=>
   r14 (by omega) (by omega) hm (Zn hs hx hq hN j (i+1) (b&&false) _ m' (by omega) (by simp[hl]) (λ y hy=>by
    rcases List.mem_append.1 hy with hy|hy
    ·exact hm y hy
    ·simp only[abK]at hy;subst hy;exact⟨_,_,_,_,_,_,_,rfl,q1,q2,a1,q3,a2,q4⟩) hm')
  have hex:∀y∈[ZX],eX y:=λ y hy=>by simp only[abK]at hy;subst hy;exact YX
  by_cases e0:k=0
  ·refine(nx ([109]++[UInt8.ofNat (u8.wrap (i64.wrap (48+(i:Int)))).toNat]) true [118,111,105,100] [] m2 (by simp) (by simp) (by simp) (by simp) h2).of_eq ?_
   rw[nF,bC,uN (m:=(jb zs m).length) (fl':=[]) hr1 rfl rfl,gu (m:=(jb zs m1).length) (fl':=[]) hr2 rfl rfl,bM]
  ·by_cases e1:k=1
   ·refine(nx ([109]++[UInt8.ofNat (u8.wrap (i64.wrap (48+(i:Int)))).toNat]) false [118,111,105,100] [ZX] m2 (by simp) (by simp) (by simp) hex h2).of_eq ?_
    rw[nF,bC,uN (m:=(jb zs m).length) (fl':=[]) hr1 rfl rfl,gu (m:=(jb zs m1).length) (fl':=[]) hr2 rfl rfl,bp,bM];rfl
   ·by_cases e4:k4=0
    ·refine(nx ([109]++[UInt8.ofNat (u8.wrap (i64.wrap (48+(i:Int)))).toNat]) false t [ZX] m4 (by simp) ht (by simp) hex h4).of_eq ?_
     rw[nF,bC,uN (m:=(jb zs m).length) (fl':=[]) hr1 rfl rfl,gu (m:=(jb zs m1).length) (fl':=[]) hr2 rfl rfl,bp,bp,kh (m:=(jb zs m2).length) (fl':=[]) hr3 rfl rfl,gu (m:=(jb zs m3).length) (fl':=[]) hr4 rfl rfl,bM];rfl
    ·refine(nx ([109]++[UInt8.ofNat (u8.wrap (i64.wrap (48+(i:Int)))).toNat]) false t [] m4 (by simp) ht (by simp) (by simp) h4).of_eq ?_
     rw[nF,bC,uN (m:=(jb zs m).length) (fl':=[]) hr1 rfl rfl,gu (m:=(jb zs m1).length) (fl':=[]) hr2 rfl rfl,bp,bp,kh (m:=(jb zs m2).length) (fl':=[]) hr3 rfl rfl,gu (m:=(jb zs m3).length) (fl':=[]) hr4 rfl rfl,bp]
theorem QX{zs:List Int}{n:Nat}(h:Pk zs n)(s:aE)(hs:s.length<=100):uW zs (.call 25 [V.p 0 0,vs s] [pk zs n]):=by obtain⟨b1,l1,m1,p1,p2,h1,hr1⟩:=kD h 5 (most:=5) rfl (by omega) s hs false;obtain⟨b2,l2,m2,q1,q2,h2,hr2⟩:=kD h1 2 (most:=2) rfl (by omega) s hs false;obtain⟨k,m3,hk,h3,hr3⟩:=hZ h2 (m:=4) 4 rfl (by omega) (by omega);refine(Zn hs (bx:=b2) (bq:=b1) ⟨q1,q2⟩ ⟨p1,p2⟩ (N:=k) (by omega) k 0 true [] m3 (by omega) rfl (by simp) h3).of_eq ?_;rw[y25,uN (m:=2) (fl':=[]) hr1,uN (m:=(jb zs m1).length) (fl':=[]) hr2 rfl rfl,gu (m:=(jb zs m2).length) (fl':=[]) hr3 rfl rfl];rfl
def Je(x:D):Prop:=∃(il sl:List D) (b:Bool) (l:List D),x = .g [.l true il,.l true sl,.l b l]/\(il=[]/\sl=[]\/il=[.s [98,97,115,101]]/\sl=[.g [.s [103,111],.s [97,46,98]]])/\1<=l.length/\l.length<=9/\∀y∈l,Mc y
theorem AZ{l:List D}(h:∀x∈l,Mc x):bA 12 l=true:=by
 cases l with
 |nil=>rfl
 |cons x l=>
  obtain⟨_,_,_,_,_,_,_,_,_,_,_,_,_,_,_,_,rfl,_⟩:=h x (by simp);rfl
theorem Ug{zs:List Int}{n:Nat}(h:Pk zs n):∃(x:D) (r:List D) (n':Nat),Je x/\(∀y∈r,Je y)/\r.length<=1/\Pk zs n'/\rk prog bT (.call 11 [V.p 0 0] [pk zs n])=some (.d (.l true (x::r)),[pk zs n']):=by
 obtain⟨k,m,hk,h1,hr⟩:=hZ h (m:=3) 3 rfl (by omega) (by omega);by_cases e0:k=0
 ·obtain⟨l1,m1,p1,p2,h2,hr2⟩:=QX h1 [98,97,115,101,46] (by simp)
  obtain⟨l2,m2,q1,q2,h3,hr3⟩:=rl h2;refine⟨_,_,m2,⟨_,_,true,l1,rfl,.inr ⟨rfl,rfl⟩,by omega,by omega,p2⟩,λ y hy=>?_,?_,h3,by rw[y11,gu (m:=2) (fl':=[]) hr,bM,uN (m:=(jb zs m).length) (fl':=[]) hr2 rfl rfl,uN (m:=(jb zs m1).length) (fl':=[]) hr3 rfl rfl];rfl⟩
  ·simp only[abK]at hy;subst hy;exact⟨_,_,true,l2,rfl,.inl ⟨rfl,rfl⟩,by omega,by omega,q2⟩
  ·simp
 ·obtain⟨l1,m1,p1,p2,h2,hr2⟩:=rl h1;obtain⟨l2,m2,q1,q2,h3,hr3⟩:=QX h2 [] (by simp);refine⟨D.g [D.l true [],D.l true [],D.l (true&&l2.isEmpty) (l1++l2)],[],m2,⟨_,_,_,l1++l2,rfl,.inl ⟨rfl,rfl⟩,by simp;omega,by simp;omega,λ y hy=>?_⟩,by simp,by simp,h3,?_⟩
  ·rcases List.mem_append.1 hy with hy|hy
   ·exact p2 y hy
   ·exact q2 y hy
  ·rw[y11,gu (m:=2) (fl':=[]) hr,bp,uN (m:=(jb zs m).length) (fl':=[]) hr2 rfl rfl,uN (m:=(jb zs m1).length) (fl':=[]) hr3 rfl rfl,aQ,AZ p2,aQ,AZ q2,aQ,Bool.true_or,aQ,aN];rfl
theorem f46(n:Int):EQ aK (.call 100 [vu n] []) ( aR (LH [] n [])):=aF
theorem f19(n:Int):EQ aK (.call 47 [vi n] []) ( aV (decide (n<0)) (Tr.call (.call 100 [vu (u64.wrap (u64.wrap (i64.wrap (0-i64.wrap (n+1)))+1))] []) λ o0=>aO o0.snd.isEmpty (bG o0.fst λ d1=>fJ d1 λ l2=>dP (1+l2.length) (Tr.ret (vs ([45]++l2),[])))) (Tr.call (.call 100 [vu (u64.wrap n)] []) λ o3=>aO o3.snd.isEmpty (bG o3.fst λ d4=>fJ d4 λ l5=>Tr.ret (vs l5,[])))):=aF
theorem PF(n0:Int)(l1:aE):EQ aK (LH l1 n0 []) ( dP (1+l1.length) (aV (u64.wrap (n0.tdiv 10)==0) (Tr.ret (vs ([UInt8.ofNat (u8.wrap (u64.wrap (48+n0.tmod 10))).toNat]++l1),[])) (aR (LH ([UInt8.ofNat (u8.wrap (u64.wrap (48+n0.tmod 10))).toNat]++l1) (u64.wrap (n0.tdiv 10)) [])))):=aF
set_option exponentiation.threshold 5000000
theorem Ca(k:Nat)(h:k<10):(UInt8.ofNat (48+k)).toNat=48+k:=by rw[UInt8.toNat_ofNat'];omega
theorem AR(k:Nat)(h:k<10):aP (UInt8.ofNat (48+k))=true:=by rw[iD,Ca k h];omega
theorem DQ(k:Nat)(h:k<10):dS (UInt8.ofNat (48+k))=k:=by rw[dS,Ca k h];omega
theorem iR(n:Nat):∀c∈cB n,aP c=true:=by
 induction n using Nat.strongRecOn with
 |ind n ih=>
  intro c hc;rw[kk]at hc;split at hc
  ·rename_i h;rw[abK]at hc;rw[hc];exact AR n h
  ·rename_i h;rcases List.mem_append.1 hc with hc|hc
   ·exact ih (n / 10) (by omega) c hc
   ·rw[abK]at hc;rw[hc];exact AR _ (abz _ (by decide))
theorem uE(n:Nat):dq (cB n)=n:=by
 induction n using Nat.strongRecOn with
 |ind n ih=>
  rw[kk];split
  ·rename_i h;show 0*10+dS _=n;rw[DQ n h];omega
  ·rename_i h;have h1:=ih (n / 10) (by omega);unfold dq at h1⊢;rw[vD,h1];show n / 10*10+dS _=n;rw[DQ _ (abz _ (by decide))];omega
theorem HY(n:Nat):dq (List.replicate n 48)=0:=by
 induction n with
 |zero=>rfl
 |succ n ih=>
  rw[List.replicate_succ'];rw[mq,ih];rfl
theorem Mt(n:Nat)(h:n≠0):(cB n).dropWhile (· == 48)=cB n:=by
 have key:∃c r,cB n=c::r/\(c==48)=false:=by
  induction n using Nat.strongRecOn with
  |ind n ih=>
   rw[kk];split
   ·rename_i h9;refine⟨_,_,rfl,?_⟩;rw[abr];intro e;have:=congrArg UInt8.toNat e;rw[Ca n h9]at this;exact h (by simpa using this)
   ·obtain⟨c,r,e1,e2⟩:=ih (n / 10) (by omega) (by omega)
    exact⟨c,r++_,by rw[e1,List.cons_append],e2⟩
 obtain⟨c,r,e1,e2⟩:=key;rw[e1,List.dropWhile_cons,e2];simp
def wL(t:aE):Prop:=t=[]\/∃c r,t=c::r/\aP c=false
theorem wL.take{t:aE}(h:wL t):t.takeWhile aP=[]:=by
 rcases h with rfl|⟨c,r,rfl,h⟩
 ·rfl
 ·rw[List.takeWhile_cons,h];simp
theorem wL.drop{t:aE}(h:wL t):t.dropWhile aP=t:=by
 rcases h with rfl|⟨c,r,rfl,h⟩
 ·rfl
 ·rw[List.dropWhile_cons,h];simp
def Sign(sg:aE)(neg:Bool):Prop:=(sg=[]/\neg=false)\/(sg=[43]/\neg=false)\/(sg=[45]/\neg=true)
theorem FZ{sg:aE}{neg:Bool}(h:Sign sg neg){w t:aE}(hw:∀c∈w,aP c=true)(hne:w≠[]):dz (sg++(w++t))=(neg,w++t):=by
 rcases h with⟨rfl,rfl⟩|⟨rfl,rfl⟩|⟨rfl,rfl⟩
 ·cases w with
  |nil=>exact absurd rfl hne
  |cons c w=>
   have hc:=hw c (by simp);have h1:c≠43:=λ e=>by rw[e]at hc;exact absurd hc (by decide)
   have h2:c≠45:=λ e=>by rw[e]at hc;exact absurd hc (by decide)
   simp[dz,h1,h2]
 ·simp[dz]
 ·simp[dz]
def Np(neg:Bool)(v:Nat):Nat×Int:=if v<2047*2^52 then(tD neg v,0) else(0,5)
theorem QH(neg:Bool)(w p:aE)(en:Bool)(k:Nat)(hk:k<=400):rS ⟨neg,w,p,en,cB k⟩=((if en=true then -(k:Int) else(k:Int)),true):=by
 have h1:dq ((cB k).dropWhile (· == 48))=k/\((cB k).dropWhile (· == 48)).length<=3:=by
  by_cases h:k=0
  ·subst h;decide
  ·rw[Mt k h];exact⟨uE k,jD 3 k (by decide) (by omega)⟩
 unfold rS;rw[aaN (by simp only;omega)];simp only[h1.1];cases en
 ·simp;omega
 ·simp;omega
def OF(t:aE)(n:Int):Prop:=
 (t=[]/\n=0)\/∃c s en k,(c=101\/c=69)/\t=c::(s++cB k)/\Sign s en/\k<=400/\n=if en=true then -(k:Int) else(k:Int)
def Part(t p:aE):Prop:=(t=[]/\p=[])\/(t=46::p/\p≠[]/\∀c∈p,aP c=true)
theorem OF.noDig{t:aE}{n:Int}(h:OF t n):wL t:=by
 rcases h with⟨rfl,-⟩|⟨c,s,en,k,hc,rfl,-⟩
 ·exact Or.inl rfl
 ·exact Or.inr ⟨c,_,rfl,by rcases hc with rfl|rfl<;>decide⟩
theorem Uh(neg:Bool)(w p:aE)(hne:w≠[]){t:aE}{n:Int}(h:OF t n):∃en d,kE neg w p t=(⟨neg,w,p,en,d⟩,true)/\rS ⟨neg,w,p,en,d⟩=(n,true):=by
 unfold kE;rw[aaN (λ h=>hne h.1)];rcases h with⟨rfl,rfl⟩|⟨c,s,en,k,hc,rfl,hs,hk,rfl⟩
 ·exact⟨false,[],rfl,rfl⟩
 ·refine⟨en,cB k,?_,QH neg w p en k hk⟩;have hcc:¬(c≠101/\c≠69):=λ ⟨h1,h2⟩=>hc.elim h1 h2;have h1:=FZ hs (t:=[]) (iR k) (nQ k);rw[abo]at h1;have h2:=yM (cB k) [] (iR k) rfl;have h3:=Jr (cB k) [] (iR k) rfl;rw[abo]at h2 h3;simp only[aaN hcc,h1,h2,h3];simp[nQ]
theorem Bc{sg:aE}{neg:Bool}(hsg:Sign sg neg){w:aE}(hw:∀c∈w,aP c=true)(hne:w≠[]){pt p:aE}(hp:Part pt p){xt:aE}{n:Int}(hx:OF xt n)(hl:w.length+p.length<=60):
  ∃v,oO (dq (w++p)*10^(n-p.length).toNat) (10^(-(n-p.length)).toNat) v/\et (sg++(w++(pt++xt)))=Np neg v:=by
 have hnd:wL (pt++xt):=by
  rcases hp with⟨rfl,-⟩|⟨rfl,-⟩
  ·exact hx.noDig
  ·exact Or.inr ⟨46,_,rfl,by decide⟩
 have h1:=FZ hsg (t:=pt++xt) hw hne;obtain⟨en,d,h2,h3⟩:=Uh neg w p hne hx;have hs:splitB (sg++(w++(pt++xt)))=(⟨neg,w,p,en,d⟩,true):=by
  unfold splitB;simp only[h1,yM w _ hw hnd.take,Jr w _ hw hnd.drop];rcases hp with⟨rfl,rfl⟩|⟨rfl,hpn,hpd⟩
  ·rw[List.nil_append];have hx':=hx;rcases hx' with⟨rfl,-⟩|⟨c,s,en,k,hc,rfl,-⟩
   ·exact h2
   ·have:c≠46:=by rcases hc with rfl|rfl<;>decide
    simp only[aaN this];exact h2
  ·simp only[List.cons_append,if_true,yM p _ hpd hx.noDig.take,Jr p _ hpd hx.noDig.drop,aaN hpn];exact h2
 obtain⟨v,h4,h5⟩:=nM (dq (w++p)*10^(n-p.length).toNat) (10^(-(n-p.length)).toNat) (abt (by decide));refine⟨v,h4,?_⟩;unfold et Np;rw[hs];simp only[h3,CU,h5];rw[aaN (by decide),cE,aaN (by decide)];unfold xA;by_cases hv:v<2047*2^52
 ·simp only[aaR hv];rw[aaN (by decide)]
 ·simp only[aaN hv];simp
theorem Pv{n:Int}(h1:-400<=n)(h2:n<=400):OF (101::cU n) n:=by
 right;unfold cU;by_cases h:n<0
 ·exact⟨101,[45],true,n.natAbs,Or.inl rfl,by rw[aaR h];rfl,Or.inr (Or.inr ⟨rfl,rfl⟩),by omega,by rw[aaR rfl];omega⟩
 ·exact⟨101,[],false,n.toNat,Or.inl rfl,by rw[aaN h];rfl,Or.inl ⟨rfl,rfl⟩,by omega,by rw[aaN (by decide)];omega⟩
theorem Bz:Sign [] false:=Or.inl ⟨rfl,rfl⟩
theorem BC:∀(k n:Nat) (l:aE),n<10^(k+1)->n<18446744073709551616->l.length+k<=1000->
  rk prog aK (LH l (n:Int) [])=some (.d (.s (cB n++l)),[])
 |k,n,l,h,h64,hl=>by
  rw[PF];have e1:(n:Int).tdiv 10=((n / 10:Nat):Int):=fV n 10;have e2:(n:Int).tmod 10=((n%10:Nat):Int):=kM n 10;have w1:u64.wrap ((n / 10:Nat):Int)=((n / 10:Nat):Int):=by rw[aY];omega
  have w2:u64.wrap (48+((n%10:Nat):Int))=((48+n%10:Nat):Int):=by rw[aY];omega
  have w3:u8.wrap ((48+n%10:Nat):Int)=((48+n%10:Nat):Int):=by rw[wrap_u8]<;>omega
  have hl1:1+l.length<4611686018427387904:=by omega
  simp only[e1,e2,w1,w2,w3,abe,bn,aa3 hl1,if_true,bo,aG,aA];by_cases h9:n<10
  ·have:((n / 10:Nat):Int)==0:=by rw[beq_iff_eq];omega
   rw[aaR this,kk n,aaR h9,abF h9]
  ·have:¬(((n / 10:Nat):Int)==0)=true:=by rw[beq_iff_eq];omega
   rw[aaN this]
   cases k with
   |zero=>simp at h;omega
   |succ k=>
    rw[BC k (n / 10) _ (by rw[abx]at h;omega) (by omega) (by simp;omega)];rw[kk n,aaN h9,abg]
theorem IL(n:Nat)(h:n<18446744073709551616):rk prog aK (.call 100 [vu (n:Int)] [])=some (.d (.s (cB n)),[]):=by rw[f46];have:=BC 20 n [] (Nat.lt_trans h (by decide)) h (by decide);rw[abo]at this;simp only[aA,this]
theorem Ws(n:Int)(h1:-9223372036854775808<=n)(h2:n<=9223372036854775807):rk prog aK (.call 47 [vi n] [])=some (.d (.s (cU n)),[]):=by
 rw[f19];by_cases h:n<0
 ·have w1:i64.wrap (n+1)=n+1:=bD;have w2:i64.wrap (0-(n+1))=0-(n+1):=bD;have w:u64.wrap (u64.wrap (i64.wrap (0-i64.wrap (n+1)))+1)=(n.natAbs:Int):=by rw[w1,w2,aY,aY];omega
  have ht:=IL n.natAbs (by omega);have hl:=jD 20 n.natAbs (by decide) (by simp;omega);have hl1:1+(cB n.natAbs).length<4611686018427387904:=by omega
  simp only[bo,aa3 h,if_true,w,bK,ht,Option.bind_some,List.isEmpty_nil,bn,dN,sn,aa3 hl1,aG];unfold cU;rw[aaR h];rfl
 ·have w:u64.wrap n=(n.toNat:Int):=by rw[aY];omega
  have ht:=IL n.toNat (by omega);simp only[bo,abf h,Bool.false_eq_true,if_false,w,bK,ht,Option.bind_some,List.isEmpty_nil,bn,if_true,dN,sn,aG];unfold cU;rw[aaN h]
theorem Nj{x y v x' y':Nat}(h:oO x y v)(hy:0<y)(hy':0<y')(e:x*y'=x'*y):oO x' y' v:=by obtain⟨w,nw,-⟩:=nM x' y' hy';rw[wm h nw hy hy' e];exact nw
theorem Xo(c:Nat):gr c<9007199254740992*(gr (c+1)-gr c):=by obtain⟨k,q,h1,h2,rfl⟩:=xD c;rw[vt k q (by omega) h2,Cz k q h1 h2,abw,Nat.one_mul,Nat.add_sub_cancel_left];exact abO h1 (abt (by decide))
theorem Ul(c:Nat)(h:0<c):gr c<=9007199254740992*(gr c-gr (c-1)):=by
 obtain⟨k,q,h1,h2,rfl⟩:=xD c;by_cases hb:k=0\/2^52<q
 ·have e:k*2^52+q-1=k*2^52+(q-1):=by omega
  have hs:q*2^k-(q-1)*2^k=2^k:=by rw[<-Nat.sub_mul,show q-(q-1)=1 by omega,Nat.one_mul]
  rw[e,vt k q (by omega) h2,vt k (q-1) (by omega) (by omega),hs];exact abH _ (Nat.le_of_lt h1)
 ·have hk:0<k:=by omega
  have hq:q=2^52:=by omega
  obtain⟨r,hr⟩:∃r,r+1=2^53:=⟨2^53-1,by omega⟩
  have e:k*2^52+q-1=(k-1)*2^52+r:=by omega
  rw[e,vt k q (by omega) h2,vt (k-1) r (by omega) (by omega),Fs hk];have h3:q*(2^(k-1)*2)=(r+1)*2^(k-1):=by rw[hr,hq,abD (2^(k-1)) 2,<-abm]
  rw[h3,abw,Nat.one_mul,Nat.add_sub_cancel_left,<-Nat.succ_mul,Nat.succ_eq_add_one,hr];exact aa4 _
theorem aaA{x y P Q u g T:Nat}(hy:0<y)(hx:x*u=g*y)(h:T*(y*P)<=x*Q):T*(P*u)<=g*Q:=by
 have:=abH u h;have a1:T*(y*P)*u=T*(P*u)*y:=by ac_rfl
 have a2:x*Q*u=g*Q*y:=by rw[Tw,hx,Tw]
 rw[a1,a2]at this;exact Nat.le_of_mul_le_mul_right this hy
theorem aaB{x y P Q u g q2:Nat}(hy:0<y)(hx:x*u=g*y)(h:q2*(y*P)<=2*(x*Q)+y*P):q2*P*u<=2*(g*Q)+P*u:=by
 have:=abH u h;have a1:q2*(y*P)*u=q2*P*u*y:=by ac_rfl
 have a2:(2*(x*Q)+y*P)*u=(2*(g*Q)+P*u)*y:=by rw[abw,abw,abm 2,Tw x Q u,hx,Tw g y Q,<-abm 2,show y*P*u=P*u*y by ac_rfl]
 rw[a1,a2]at this;exact Nat.le_of_mul_le_mul_right this hy
theorem aaC{x y P Q u g q2:Nat}(hy:0<y)(hx:x*u=g*y)(h:2*(x*Q)<=q2*(y*P)+y*P):2*(g*Q)<=q2*P*u+P*u:=by
 have:=abH u h;have a1:2*(x*Q)*u=2*(g*Q)*y:=by rw[abm 2,Tw x Q u,hx,Tw g y Q,<-abm 2]
 have a2:(q2*(y*P)+y*P)*u=(q2*P*u+P*u)*y:=by rw[abw,abw,show q2*(y*P)*u=q2*P*u*y by ac_rfl,show y*P*u=P*u*y by ac_rfl]
 rw[a1,a2]at this;exact Nat.le_of_mul_le_mul_right this hy
theorem Qp(a b c Q:Nat)(h:a+b=c):a*Q+b*Q=c*Q:=by rw[<-abw,h]
theorem E9{x y c q P Q:Nat}(hy:0<y)(hQ:0<Q)(hc:0<c)(hx:x*U=gr c*y)(h16:10000000000000000*(y*P)<=x*Q)
  (h1:2*q*(y*P)<=2*(x*Q)+y*P) (h2:2*(x*Q)<=2*q*(y*P)+y*P):oO (q*P) Q c:=by
 have m1:=aaA hy hx h16;have m2:=aaB hy hx h1;have m3:=aaC hy hx h2;rw[abm 2 q P]at m2 m3;refine JJ ?_ (Or.inr ?_)
 ·have g:=Xo c;have gl:=AI c;have e:iN c*Q=2*(gr c*Q)+(gr (c+1)-gr c)*Q:=by rw[<-abm];exact(Qp _ _ _ Q (by unfold iN;omega)).symm
  have k1:=abO g hQ;rw[abm]at k1;rw[e];generalize (gr (c+1)-gr c)*Q=G at *;generalize gr c*Q=A at *;generalize P*U=B at *;generalize 2*(q*P)*U=D at *;omega
 ·have g:=Ul c hc;have gl:=AI (c-1);rw[Nat.sub_add_cancel hc]at gl;have e:iN (c-1)*Q+(gr c-gr (c-1))*Q=2*(gr c*Q):=by rw[<-abm];exact Qp _ _ _ Q (by unfold iN;rw[Nat.sub_add_cancel hc];omega)
  have k1:=abH Q g;rw[abm]at k1;have k2:0<(gr c-gr (c-1))*Q:=Nat.mul_pos (by omega) hQ;generalize (gr c-gr (c-1))*Q=G at *;generalize iN (c-1)*Q=M at *;generalize gr c*Q=A at *;generalize P*U=B at *;generalize 2*(q*P)*U=D at *;omega
theorem w8(x y:Nat)(h0:dC x y (-400)=false):∀k:Nat,dC x y (jE x y k)=false/\-400<=jE x y k/\jE x y k<=(k:Int)-400/\(jE x y k=(k:Int)-400\/dC x y (jE x y k+1)=true)
 |0=>⟨h0,by simp[jE],by simp[jE],Or.inl (by simp[jE])⟩
 |k+1=>by
  rw[jE];split
  ·rename_i h;obtain⟨h1,h2,h3,h4⟩:=w8 x y h0 k;refine⟨h1,h2,by omega,Or.inr ?_⟩;rcases h4 with h4|h4
   ·rw[h4,show (k:Int)-400+1=((k+1:Nat):Int)-400 by omega];exact h
   ·exact h4
  ·rename_i h;exact⟨by simpa using h,by omega,by omega,Or.inl rfl⟩
theorem O3:((List.range 1101).all λ d=>decide (2^(d+1)<=10^(d*30103 / 100000+2)))=true:=by decide +kernel
theorem O2:((List.range 1101).all λ d=>decide (10^(d*30103 / 100000)*2<=2^d*100))=true:=by decide +kernel
theorem IF(x y:Nat)(hy0:0<y)(hx:qk x)(hy:qk y):dC x y ((((bJ x:Int)-bJ y)*30103).tdiv 100000+2)=true:=by
 have lx:=hx.bJ;have ly:=hy.bJ;have bx:=og x;have by_:=ql y (by omega);have py:=mW (n:=y) (by omega);rcases Int.le_total 0 ((bJ x:Int)-bJ y)with h|h
 ·obtain⟨d,hd⟩:∃d:Nat,(bJ x:Int)-bJ y=d:=⟨((bJ x:Int)-bJ y).toNat,by omega⟩
  rw[hd];have e:((d:Int)*30103).tdiv 100000+2=((d*30103 / 100000+2:Nat):Int):=by have:((d:Int)*30103).tdiv 100000=((d*30103 / 100000:Nat):Int):=fV (d*30103) 100000;rw[this];omega
  have hc:=abu.1 O3 d (List.mem_range.2 (by omega));rw[decide_eq_true_eq]at hc;rw[e];unfold dC;rw[cE,abe];generalize d*30103 / 100000+2=t at hc;have e2:2^bJ x=2^(bJ y-1)*2^(d+1):=by rw[<-abC];congr 1;omega
  have h3:=Nat.mul_le_mul by_ hc;exact aa3 (by omega)
 ·obtain⟨d,hd⟩:∃d:Nat,(bJ x:Int)-bJ y = -(d:Int):=⟨((bJ y:Int)-bJ x).toNat,by omega⟩
  rw[hd];have e:(-(d:Int)*30103).tdiv 100000+2=2-((d*30103 / 100000:Nat):Int):=by have:((d:Int)*30103).tdiv 100000=((d*30103 / 100000:Nat):Int):=fV (d*30103) 100000;rw[Int.neg_mul,Int.neg_tdiv,this];omega
  rw[e];have hc:=abu.1 O2 d (List.mem_range.2 (by omega));rw[decide_eq_true_eq]at hc;generalize d*30103 / 100000=t at hc;have e2:2^bJ x*2^d=2*2^(bJ y-1):=by rw[<-abC,abD 2,<-abx];congr 1;omega
  have h3:x*2^d<2*y:=by have:=abO bx (show 0<2^d from abt (by decide));omega
  have h4:x*(10^t*2)<=x*(2^d*100):=Nat.mul_le_mul_left _ hc;have h5:x*(2^d*100)=x*2^d*100:=by rw[abm]
  have h6:x*(10^t*2)=x*10^t*2:=by rw[abm]
  unfold dC;by_cases ht:2-(t:Int)<0
  ·rw[aaR ht,show (-(2-(t:Int))).toNat=t-2 by omega]
   have e3:10^t=10^(t-2)*100:=by rw[show (100:Nat)=10^2 from rfl,<-abC];congr 1;omega
   have e4:x*10^t=x*10^(t-2)*100:=by rw[e3,abm]
   exact aa3 (by omega)
  ·rw[aaN ht];have ht2:t<=2:=by omega
   have e3:100=10^(2-(t:Int)).toNat*10^t:=by rw[<-abC,show (2-(t:Int)).toNat+t=2 by omega]
   have e4:y*10^(2-(t:Int)).toNat*10^t=y*100:=by rw[abm,<-e3]
   have hp:0<10^t:=abt (by decide);refine aa3 (Nat.lt_of_mul_lt_mul_right (a:=10^t) ?_);omega
theorem rr(x y:Nat)(hx0:0<x)(hy0:0<y)(hx:qk x)(hy:qk y):∃n:Int,jE x y ((((bJ x:Int)-bJ y)*30103).tdiv 100000+401).toNat=n/\dC x y n=false/\dC x y (n+1)=true/\-400<=n/\n<=350:=by
 have lx:=hx.bJ;have ly:=hy.bJ;have hb:=qa ((bJ x:Int)-bJ y) (by omega) (by omega);have hs:=IF x y hy0 hx hy;obtain⟨h1,h2,h3,h4⟩:=w8 x y (Qh hx0 hy) ((((bJ x:Int)-bJ y)*30103).tdiv 100000+401).toNat;generalize (((bJ x:Int)-bJ y)*30103).tdiv 100000=z at *;refine⟨_,rfl,h1,?_,h2,by omega⟩;rcases h4 with h4|h4
 ·rw[h4,show (((z+401).toNat:Nat):Int)-400+1=z+2 by omega];exact hs
 ·exact h4
def mT(n:Int):Nat:=10^n.toNat
def me(n:Int):Nat:=10^(-n).toNat
theorem qF(n:Int):0<mT n:=abt (by decide)
theorem ku(n:Int):0<me n:=abt (by decide)
theorem lQ(x y:Nat)(n:Int):cI x y n=ek (x*me n) (y*mT n):=by
 unfold cI mT me;split
 ·rename_i h;rw[show n.toNat=0 by omega,Nat.pow_zero,Nat.mul_one]
 ·rename_i h;rw[show (-n).toNat=0 by omega,Nat.pow_zero,Nat.mul_one]
theorem zT(x y:Nat)(n:Int):dC x y n=decide (x*me n<y*mT n):=by
 unfold dC mT me;split
 ·rename_i h;rw[show n.toNat=0 by omega,Nat.pow_zero,Nat.mul_one]
 ·rename_i h;rw[show (-n).toNat=0 by omega,Nat.pow_zero,Nat.mul_one]
theorem y7(n m:Int)(k:Nat)(h:n=m+k):mT n*me m=10^k*(mT m*me n):=by unfold mT me;rw[<-abC,<-abC,<-abC];congr 1;omega
theorem ky(x y:Nat)(n m:Int)(k:Nat)(h:n=m+k):dC x y n=decide (x*me m<y*mT m*10^k):=by
 rw[zT];have e:=y7 n m k h;congr 1;apply propext;have a1:x*me n*(mT m*me m)=x*me m*(mT m*me n):=by ac_rfl
 have a2:y*mT n*(mT m*me m)=y*mT m*10^k*(mT m*me n):=by
  have:y*mT n*(mT m*me m)=y*mT m*(mT n*me m):=by ac_rfl
  rw[this,e,abm (y*mT m)]
 have p1:0<mT m*me m:=Nat.mul_pos (qF _) (ku _);have p2:0<mT m*me n:=Nat.mul_pos (qF _) (ku _);constructor
 ·intro h;have:=abO h p1;rw[a1,a2]at this;exact Nat.lt_of_mul_lt_mul_right this
 ·intro h;have:=abO h p2;rw[<-a1,<-a2]at this;exact Nat.lt_of_mul_lt_mul_right this
theorem ik:∀(k n:Nat),10^k<=n->n<10^(k+1)->(cB n).length=k+1
 |0,n,_,h=>by rw[kk,aaR (by simpa using h)];rfl
 |k+1,n,h1,h2=>by
  have h9:¬n<10:=by have:10^1<=10^(k+1):=abM (by decide) (by omega);omega
  rw[kk,aaN h9,aaS,ik k (n / 10) (by rw[abx]at h1;omega) (by rw[abx]at h2;omega)];rfl
theorem yX(x:aE):∃j,x=trimRightB 48 x++List.replicate j 48:=by
 refine⟨(x.reverse.takeWhile (· == 48)).length,?_⟩;have h1:x.reverse.takeWhile (· == 48)=List.replicate (x.reverse.takeWhile (· == 48)).length 48:=by refine List.eq_replicate_iff.2 ⟨rfl,λ c hc=>?_⟩;have:=List.all_takeWhile (l:=x.reverse) (p:=(· == (48:UInt8)));rw[abu]at this;exact beq_iff_eq.1 (this c hc)
 have h2:x.reverse=x.reverse.takeWhile (· == 48)++x.reverse.dropWhile (· == 48):=(List.takeWhile_append_dropWhile).symm;have h3:=congrArg List.reverse h2;rw[List.reverse_reverse,List.reverse_append]at h3;unfold trimRightB;generalize (x.reverse.takeWhile (· == 48)).length=j at h1;rw[h1,List.reverse_replicate]at h3;exact h3
theorem ND(d:aE)(hl:d.length=17)(hd:∀c∈d,aP c=true):lO d≠[]/\(∀c∈lO d,aP c=true)/\(lO d).length<=16/\dq (d.take 1++lO d)*10^16=dq d*10^(lO d).length:=by
 obtain⟨j,hj⟩:=yX (d.drop 1);have e:d=d.take 1++d.drop 1:=(List.take_append_drop 1 d).symm;have lr:(d.drop 1).length=16:=by rw[abB,hl]
 have hdr:∀c∈d.drop 1,aP c=true:=λ c hc=>hd c (List.mem_of_mem_drop hc);unfold lO;generalize trimRightB 48 (d.drop 1)=t at *;have ht:∀c∈t,aP c=true:=λ c hc=>hdr c (by rw[hj];exact List.mem_append_left _ hc);have lj:t.length+j=16:=by have:=congrArg List.length hj;rw[lr,aaS,List.length_replicate]at this;exact this.symm
 have hn:dq d=dq (d.take 1++t)*10^j:=by
  have e2:dq d=dq (d.take 1++t++List.replicate j 48):=by rw[abg,<-hj,<-e]
  rw[e2,mq,HY,List.length_replicate];omega
 by_cases h0:t=[]
 ·rw[aaR h0];subst h0;have hj16:j=16:=by simpa using lj
  refine⟨by decide,by decide,by decide,?_⟩;rw[hn,hj16,abo,mq];show (dq (d.take 1)*10+0)*10^16=dq (d.take 1)*10^16*10;omega
 ·rw[aaN h0];refine⟨h0,ht,by omega,?_⟩;rw[hn,abm,<-abC,Nat.add_comm j,lj]
theorem Bd{sg:aE}{neg:Bool}(hsg:Sign sg neg)(q c:Nat)(n:Int)(h1:10^16<=q)(h2:q<10^17)(n1:-400<=n)(n2:n<=400)(hc:oO (q*mT (n-16)) (me (n-16)) c):et (lL sg (cB q) n)=Np neg c:=by
 have hl:=ik 16 q h1 h2;obtain⟨r1,r2,r3,r4⟩:=ND (cB q) hl (iR q);have hw:∀c∈(cB q).take 1,aP c=true:=λ c hc=>iR q c (List.mem_of_mem_take hc);have hne:(cB q).take 1≠[]:=λ h=>by
  have:=congrArg List.length h;rw[List.length_take,hl]at this;simp at this
 have lw:((cB q).take 1).length<=1:=by rw[List.length_take];omega
 rw[uE]at r4;unfold lL;generalize lO (cB q)=r at *;generalize (cB q).take 1=w at *;have e:sg++w++[46]++r++[101]++cU n=sg++(w++((46::r)++(101::cU n))):=by simp
 have lw1:w.length+r.length<=60:=by omega
 obtain⟨v,hv,hp⟩:=Bc hsg hw hne (Or.inr ⟨rfl,r1,r2⟩) (Pv n1 n2) lw1;have hvc:v=c:=wm hv hc (abt (by decide)) (ku _) (by
  have:dq (w++r)*10^16*(10^(n-(r.length:Int)).toNat*me (n-16))=q*10^r.length*(10^(n-(r.length:Int)).toNat*me (n-16)):=by rw[r4]
  have e1:q*10^r.length*(10^(n-(r.length:Int)).toNat*me (n-16))=q*mT (n-16)*10^(-(n-(r.length:Int))).toNat*10^16:=by unfold mT me;rw[abm q,abm q,abm q,<-abC,<-abC,<-abC,<-abC];congr 2;omega
  have e2:dq (w++r)*10^16*(10^(n-(r.length:Int)).toNat*me (n-16))=dq (w++r)*10^(n-(r.length:Int)).toNat*me (n-16)*10^16:=by
   generalize 10^(n-(r.length:Int)).toNat=a;generalize 10^16=b
   ac_rfl
  rw[e1,e2]at this
  exact Nat.eq_of_mul_eq_mul_right (abt (by decide)) this)
 rw[e,hp,hvc]
theorem UO(c:Nat)(hk:c / 2^52<2047):(dX c).1*U=gr c*(dX c).2:=by
 unfold dX;by_cases h0:c / 2^52=0
 ·have h1:c<2^52:=by omega
  simp only[aaR h0];rw[aaR (by decide)];simp only;rw[abF h1,gr,aaR h1];rfl
 ·simp only[aaN h0];have hq:2^52<=c%2^52+2^52/\c%2^52+2^52<2^53:=by omega
  have hg:gr c=(c%2^52+2^52)*2^(c / 2^52-1):=by rw[gr,cE]
  obtain⟨k,hk2⟩:∃k,c / 2^52=k+1:=⟨c / 2^52-1,by omega⟩
  rw[hg,hk2,Nat.add_sub_cancel];generalize c%2^52+2^52=q;have e:(-1074:Int)+(((k+1:Nat):Int)-1)=(k:Int)-1074:=by omega
  rw[e];by_cases h:(k:Int)-1074<0
  ·rw[aaR h];simp only;rw[show (-((k:Int)-1074)).toNat=1074-k by omega,B1 (k:=k) (by omega),<-abm,Tw]
  ·rw[aaN h];simp only;rw[show ((k:Int)-1074).toNat=k-1074 by omega,Nat.mul_one,abm,<-GW (by omega)]
theorem tC{A B q:Nat}(hB:0<B)(hq:ek A B=q)(h1:10^16*B<=A)(h2:A<10^17*B):10^16<=q/\q<=10^17/\2*q*B<=2*A+B/\2*A<=2*q*B+B:=by
 have hu:=sS A B hB;have hl:=qz A B hB;rw[hq]at hu hl;have e1:(2*q+1)*B=2*q*B+B:=by rw[abw,Nat.one_mul]
 rw[e1]at hu;refine⟨?_,?_,by omega,by omega⟩
 ·rcases abn q (10^16)with h|h
  ·exfalso;have:(2*q+1)*B<=(2*10^16-1)*B:=abH _ (by omega);have e2:(2*10^16-1)*B+B=2*(10^16*B):=by rw[<-Nat.succ_mul,<-abm]
   omega
  ·exact h
 ·rcases abn (10^17) q with h|h
  ·exfalso;have:2*(10^17+1)*B<=2*q*B:=abH _ (by omega);have e2:2*(10^17+1)*B=2*(10^17*B)+2*B:=by rw[abm,abw,Nat.one_mul,abA]
   omega
  ·exact h
theorem Za(a b x s:Nat):a*(b*x)*s=a*(b*(x*s)):=by rw[abm,abm]
theorem Y9(a x s:Nat):a*x*s=a*(x*s):=abm _ _ _
theorem Zb(a x b s:Nat):a*x*(b*s)=a*(x*b*s):=by rw[abm,abm]
theorem yC{A B A' B' s s':Nat}(hB:0<B')(hs:0<s)(hs':0<s')(ha:A*s'=A'*s)(hb:B'*s=B*10*s')(h1:2*10^17*B<=2*A+B)(h2:A<10^17*B):ek A' B'=10^16:=by
 have hu:=sS A' B' hB;have hl:=qz A' B' hB;have e1:(2*ek A' B'+1)*B'=2*ek A' B'*B'+B':=by rw[abw,Nat.one_mul]
 rw[e1]at hu;generalize ek A' B'=q at *;have k1:10*(2*10^16*B')<=10*(2*A')+B':=by
  have:=abH (10*s') h1;have a1:2*10^17*B*(10*s')=10*(2*10^16*B')*s:=by rw[Za,hb,Zb];generalize B*10*s'=z;omega
  have a2:(2*A+B)*(10*s')=(10*(2*A')+B')*s:=by rw[abw,abw,Za,hb,Zb,<-abm B,<-ha,Nat.mul_right_comm A 10 s'];generalize B*10*s'=z;generalize A*s'=w;omega
  rw[a1,a2]at this;exact Nat.le_of_mul_le_mul_right this hs
 have k2:A'<10^16*B':=by
  have:=abO h2 hs';have a1:10^17*B*s'=10^16*B'*s:=by rw[Y9,Y9,hb,Nat.mul_right_comm B 10 s'];generalize B*s'=z;omega
  rw[a1,ha]at this;exact Nat.lt_of_mul_lt_mul_right this
 refine Nat.le_antisymm ?_ ?_
 ·rcases abn (10^16) q with h|h
  ·exfalso;have:2*(10^16+1)*B'<=2*q*B':=abH _ (by omega);have e2:2*(10^16+1)*B'=2*(10^16*B')+2*B':=by rw[abm,abw,Nat.one_mul,abA]
   omega
  ·exact h
 ·rcases abn q (10^16)with h|h
  ·exfalso;have:2*q*B'<=2*(10^16-1)*B':=abH _ (by omega);have e2:2*(10^16-1)*B'+2*B'=2*10^16*B':=by rw[<-abw]
   omega
  ·exact h
theorem Ic{sg:aE}{neg:Bool}(hsg:Sign sg neg)(x y c:Nat)(hx0:0<x)(hy0:0<y)(hx:qk x)(hy:qk y)(hc:0<c)(hg:x*U=gr c*y):et (p7 sg x y)=Np neg c:=by
 obtain⟨n,hn,b1,b2,n1,n2⟩:=rr x y hx0 hy0 hx hy;unfold p7;simp only[hn];rw[ky x y n (n-16) 16 (by omega)]at b1;rw[ky x y (n+1) (n-16) 17 (by omega)]at b2;have c1:10^16*(y*mT (n-16))<=x*me (n-16):=by have:=of_decide_eq_false b1;rw[abD];omega
 have c2:x*me (n-16)<10^17*(y*mT (n-16)):=by have:=of_decide_eq_true b2;rw[abD (10^17)];exact this
 have hB:0<y*mT (n-16):=Nat.mul_pos hy0 (qF _);have hq:=lQ x y (n-16);obtain⟨q1,q2,q3,q4⟩:=tC hB hq.symm c1 c2;have near:oO (cI x y (n-16)*mT (n-16)) (me (n-16)) c:=E9 hy0 (ku _) hc hg c1 q3 q4;generalize hqq:cI x y (n-16)=q at *;have ht:fK q=cB q:=by unfold fK;rw[abF (by omega)]
 rw[ht];by_cases h17:q<10^17
 ·rw[aaN (by rw[ik 16 q q1 h17];decide)]
  exact Bd hsg q c n q1 h17 (by omega) (by omega) near
 ·have hqe:q=10^17:=by omega
  rw[aaR (by rw[ik 17 q (by omega) (by omega)];decide)];have sh:=y7 (n+1-16) (n-16) 1 (by omega);have hnext:cI x y (n+1-16)=10^16:=by
   rw[lQ];refine yC (A:=x*me (n-16)) (B:=y*mT (n-16)) (s:=me (n-16)) (s':=me (n+1-16)) (Nat.mul_pos hy0 (qF _)) (ku _) (ku _) (Nat.mul_right_comm _ _ _) ?_ ?_ c2
   ·rw[abm y,sh];generalize mT (n-16)=a;generalize me (n+1-16)=b;rw[Nat.pow_one,abm y a 10,abm y,Nat.mul_right_comm a 10 b,abD 10 (a*b)]
   ·rw[hqe]at q3;exact q3
  have hnear:oO (10^16*mT (n+1-16)) (me (n+1-16)) c:=by refine Nj near (ku _) (ku _) ?_;rw[hqe,abm (10^16) (mT (n+1-16)),sh];generalize mT (n-16)=a;generalize me (n+1-16)=b;rw[abm];generalize a*b=z;omega
  rw[hnext,show fK (10^16)=cB (10^16)from rfl];exact Bd hsg (10^16) c (n+1) (aa4 _) (by decide) (by omega) (by omega) hnear
theorem Ib(b:Nat)(hb:b<2^64)(hk:b / 2^52%2048≠2047):et (gE b)=(b,0):=by
 unfold gE;rw[aaN hk];have hc:b%2^63 / 2^52<2047:=by omega
 have hlt:b%2^63<2047*2^52:=by omega
 have hs:∀neg:Bool,neg=decide (2^63<=b)->Np neg (b%2^63)=(b,0):=by
  intro neg h;rw[Np,aaR hlt];congr 1;unfold tD;by_cases ht:2^63<=b
  ·rw[h,aaR (by simp[ht]),(Kk (v:=b%2^63) (by omega)).2];omega
  ·rw[h,aaN (by simp;omega)];omega
 obtain⟨sg,neg,hsg,hneg,hout⟩:∃sg neg,Sign sg neg/\neg=decide (2^63<=b)/\(if 2^63<=b then [45]else [])=sg:=by
  by_cases ht:2^63<=b
  ·exact⟨[45],true,Or.inr (Or.inr ⟨rfl,rfl⟩),by simp[ht],aaR ht⟩
  ·exact⟨[],false,Bz,by simp;omega,aaN ht⟩
 simp only[hout];have h2:=hs neg hneg;generalize b%2^63=c at *;by_cases h0:c=0
 ·rw[aaR h0];have e:sg++[48,46,48,101,48]=sg++([48]++([46,48]++(101::([]++cB 0)))):=by rw[show cB 0=[48]from rfl];rfl
  obtain⟨v,hv,hp⟩:=Bc hsg (w:=[48]) (by decide) (by decide) (pt:=[46,48]) (p:=[48]) (Or.inr ⟨rfl,by decide,by decide⟩) (xt:=101::([]++cB 0)) (n:=0) (Or.inr ⟨101,[],false,0,Or.inl rfl,rfl,Bz,by omega,by simp⟩) (by decide);have hv0:v=0:=wm hv (HW (x:=0) (y:=1) (v:=0) (by decide) (by rw[Nat.zero_mul];rfl)) (abt (by decide)) (by decide) (by rw[show dq ([48]++[48])=0 from rfl];simp);rw[e,hp,hv0,<-h0];exact h2
 ·rw[aaN h0];obtain⟨s1,s2,s3⟩:=tm c (by omega) hc;rw[Ic hsg (dX c).1 (dX c).2 c (tj c h0) s3 s1 s2 (by omega) (UO c hc)];exact h2
theorem uM(b:Nat)(hb:b<2^64):(gE b).length<=1000:=by
 have put:∀(out:aE) (q:Nat) (n:Int),out.length<=1->-1000000<n->n<1000000->(lL out (fK q) n).length<=1000:=by
  intro out q n ho h1 h2;have ht:=yO q;have hd:=lC h1 h2;have hr:(lO (fK q)).length<=20:=by
   unfold lO;split
   ·decide
   ·have:=BG 48 ((fK q).drop 1);rw[abB]at this;omega
  unfold lL;simp only[aaS,List.length_take,List.length_singleton];omega
 unfold gE;split
 ·decide
 ·rename_i hk;have ho:(if 2^63<=b then [45] else([]:aE)).length<=1:=by split<;>decide
  simp only;split
  ·rw[aaS];have h5:([48,46,48,101,48]:aE).length=5:=rfl;omega
  ·rename_i h0;obtain⟨s1,s2,s3⟩:=tm (b%2^63) (by omega) (by omega);obtain⟨n,hn,-,-,n1,n2⟩:=rr (dX (b%2^63)).1 (dX (b%2^63)).2 (tj _ h0) s3 s1 s2;unfold p7;simp only[hn];split
   ·exact put _ _ _ ho (by omega) (by omega)
   ·exact put _ _ _ ho (by omega) (by omega)
theorem iT{α:Type}{l:List α}{f:α->aE}{B:Nat}(h:∀x∈l,(f x).length<=B):(l.map f).flatten.length<=l.length*B:=by
 induction l with
 |nil=>simp
 |cons x l ih=>
  have h1:=h x (by simp);have h2:=ih λ y hy=>h y (by simp[hy]);simp only[List.map_cons,List.flatten_cons,aaS,aaT,abw,Nat.one_mul];omega
theorem xJ{l:List aE}{B:Nat}(h:∀x∈l,x.length<=B):(Lib.join l [44,32]).length<=l.length*(B+2):=by
 cases l with
 |nil=>simp[Lib.join_nil]
 |cons x r=>
  rw[Lib.join_cons];have h1:=h x (by simp);have h2:(Lib.joinTail [44,32] r).length<=r.length*(B+2):=by unfold Lib.joinTail;refine iT λ y hy=>?_;have:=h y (by simp[hy]);simp only[aaS,aaT,abp];omega
  rw[aaS,aaT,abw,Nat.one_mul];omega
theorem uL(s:aE):(fi s).length=s.length+2:=by unfold fi;split<;>simp
theorem O7{k n u:Int}{s:aE}{d:Nat}(hn:-1000<=n/\n<=1000)(hu:0<=u/\u<18446744073709551616)(hs:s.length<=103):WC (d+1) (cD k n u s true []):=
 ⟨k,n,u,s,true,[],rfl,⟨by omega,by omega⟩,hu,by omega,by simp,.inr (.inr rfl),by simp⟩
theorem Jl{k n u:Int}{s:aE}(hn:-1000<=n/\n<=1000)(hu:0<=u/\u<18446744073709551616)(hs:s.length<=103):(eB (D.g [D.i .i64 k,D.i .i64 n,D.i .u64 u,D.s s,D.l true []])).length<=1010:=by
 simp only[eB];split
 ·have:=lC (n:=n) (by omega) (by omega);omega
 ·split
  ·have:=uM u.toNat (by omega);omega
  ·split
   ·rw[uL];omega
   ·split
    ·omega
    ·split<;>simp[kK,cC,Lib.join_nil]
theorem Us{x:D}{d:Nat}(h:BU x):WC (d+1) x:=by obtain⟨k,n,u,s,rfl,_,_,h1,h2,h3,h4,h5⟩:=h;exact O7 ⟨h1,h2⟩ ⟨h3,h4⟩ h5
theorem Ur{x:D}(h:BU x):Kn x:=by obtain⟨k,n,u,s,rfl,h0,_⟩:=h;show k≠0;omega
theorem P6{x:D}(h:BU x):(eB x).length<=1010:=by obtain⟨k,n,u,s,rfl,_,_,h1,h2,h3,h4,h5⟩:=h;exact Jl ⟨h1,h2⟩ ⟨h3,h4⟩ h5
theorem xT{x:D}(h:eX x):WF x:=by obtain⟨h,id,r,t,nm,hi,k,n,u,s,rfl,a1,a2,a3,a4,a5,a6,a7,a8,a9,b1,b2,b3,b4,b5⟩:=h;exact⟨h,id,r,t,nm,hi,k,n,u,s,true,[],rfl,⟨by omega,by omega⟩,by omega,by omega,λ h=>by have:=a7 h;omega,O7 ⟨b1,b2⟩ ⟨b3,b4⟩ b5⟩
theorem xS{x:D}(h:eX x):(sd x).length<=1600:=by
 obtain⟨h,id,r,t,nm,hi,k,n,u,s,rfl,a1,a2,a3,a4,a5,a6,a7,a8,a9,b1,b2,b3,b4,b5⟩:=h;have h1:=lC (n:=id) (by omega) (by omega);have h2:=Jl (k:=k) ⟨b1,b2⟩ ⟨b3,b4⟩ b5;simp only[sd,aaS];have e1:(if h=true then cU id++[58,32]else []).length<=10:=by split<;>simp;omega
 have e2:(if r=1 then [114,101,113,117,105,114,101,100,32]else if r=2 then [111,112,116,105,111,110,97,108,32]else []:aE).length<=9:=by
  split
  ·simp
  ·split<;>simp
 have e3:(if hi=true then [32,61,32]++eB (.g [.i .i64 k,.i .i64 n,.i .u64 u,.s s,.l true []])else []:aE).length<=1013:=by
  split
  ·simp only[aaS,aaT,abp];omega
  ·simp
 simp only[aaS,aaT,abp]at *;omega
theorem Nd{x:D}(h:nJ x):WM x:=by obtain⟨nm,h,n,rfl,a1,a2,a3⟩:=h;exact⟨nm,h,n,rfl,by omega,by omega,by omega⟩
theorem E7{x:D}(h:nJ x):(te x).length<=20:=by
 obtain⟨nm,h,n,rfl,a1,a2,a3⟩:=h;have h1:=lC (n:=n) (by omega) (by omega);have e1:(if h=true then [32,61,32]++cU n else []:aE).length<=11:=by split<;>simp;omega
 simp only[te,aaS,aaT,abp]at *;omega
theorem Ft{l:List D}{B:Nat}(h:∀x∈l,eX x)(hl:l.length<=B):(fh l).length<=B*1602:=by
 have:=xJ (l:=l.map sd) (B:=1600) λ y hy=>by
  obtain⟨x,hx,rfl⟩:=List.mem_map.1 hy;exact xS (h x hx)
 rw[List.length_map]at this;exact abI this (abH _ hl)
theorem Nf{x:D}(h:qj x):zP x:=by obtain⟨nm,ow,ret,ab,al,tb,tl,rfl,a1,a2,a3,a4,a5,a6⟩:=h;exact⟨nm,ow,ret,ab,al,tb,tl,rfl,by omega,by omega,by omega,by omega,λ y hy=>xT (a5 y hy),λ y hy=>xT (a6 y hy)⟩
theorem E8{x:D}(h:qj x):(iU x).length<=6000:=by
 obtain⟨nm,ow,ret,ab,al,tb,tl,rfl,a1,a2,a3,a4,a5,a6⟩:=h;have h1:=Ft a5 a3;have h2:=Ft a6 a4;have e1:(if ow=true then [111,110,101,119,97,121,32]else []:aE).length<=7:=by split<;>simp
 have e2:(if tl=[]then []else [32,116,104,114,111,119,115,32,40]++fh tl++[41]:aE).length<=1700:=by
  split
  ·simp
  ·simp only[aaS,aaT,abp];omega
 simp only[iU,aaS,aaT,abp]at *;omega
theorem XG{x:D}(h:Mc x):WD x:=by
 obtain⟨kd,nm,ty,ck,cn,cu,cs,cb,cl,fb,fl,mb,ml,ex,tb,tl,rfl,a1,a2,a3,a4,a5,a6,a7,a8,a9,b1,b2,b3,b4,b5,b6,b7,b8,b9,c1,c2,c3,c4,c5,c6⟩:=h
 exact⟨kd,nm,ty,ck,cn,cu,cs,cb,cl,fb,fl,mb,ml,ex,tb,tl,rfl,a1,a2,by omega,by omega,λ h=>by have:=a7 h;omega,⟨ck,cn,cu,cs,cb,cl,rfl,⟨by omega,by omega⟩,⟨b1,b2⟩,by omega,by omega,by omega,λ y hy=>⟨Us (b5 y hy),Ur (b5 y hy)⟩⟩,
  by omega,λ y hy=>xT (b7 y hy),by omega,λ y hy=>Nd (b9 y hy),by omega,by omega,λ y hy=>Nf (c3 y hy),c4,c5,c6⟩
theorem Ql{x:D}(h:Mc x):(nr x).length<=20000:=by
 obtain⟨kd,nm,ty,ck,cn,cu,cs,cb,cl,fb,fl,mb,ml,ex,tb,tl,rfl,a1,a2,a3,a4,a5,a6,a7,a8,a9,b1,b2,b3,b4,b5,b6,b7,b8,b9,c1,c2,c3,c4,c5,c6⟩:=h;have hf:(fl.map rT).flatten.length<=5*1604:=abI (iT (B:=1604) λ y hy=>by
  have:=xS (b7 y hy)
  simp only[rT,aaS,aaT,abp];omega) (abH _ b6)
 have hm:(ml.map te).flatten.length<=3*20:=abI (iT (B:=20) λ y hy=>E7 (b9 y hy)) (abH _ b8);have ht:(tl.map iU).flatten.length<=3*6000:=abI (iT (B:=6000) λ y hy=>E8 (c3 y hy)) (abH _ c2);have hcs:∀y∈kK cl,y.length<=1010:=by
  intro y hy;have e:∀l:List D,kK l=l.map eB:=by
   intro l
   induction l with
   |nil=>simp only[kK,List.map_nil]
   |cons a l ih=>simp only[kK,List.map_cons,ih]
  rw[e]at hy;obtain⟨z,hz,rfl⟩:=List.mem_map.1 hy;exact P6 (b5 z hz)
 have hc:(eB (D.g [D.i .i64 ck,D.i .i64 cn,D.i .u64 cu,D.s cs,D.l cb cl])).length<=5000:=by
  have e:∀l:List D,kK l=l.map eB:=by
   intro l
   induction l with
   |nil=>simp only[kK,List.map_nil]
   |cons a l ih=>simp only[kK,List.map_cons,ih]
  have hl:(kK cl).length<=2:=by rw[e,List.length_map];exact b4
  simp only[eB];split
  ·have:=lC (n:=cn) (by omega) (by omega);omega
  ·split
   ·have:=uM cu.toNat (by omega);omega
   ·split
    ·rw[uL];omega
    ·split
     ·omega
     ·split
      ·have:=xJ hcs;have h2:=abH (1010+2) hl;simp only[aaS,aaT,abp];omega
      ·have hp:∀y∈cC (kK cl),y.length<=2022:=by
        intro y hy;have:∀(l:List aE),(∀y∈l,y.length<=1010)->∀y∈cC l,y.length<=2022:=by
         intro l
         induction l using cC.induct with
         |case1 a b r ih=>
          intro h y hy;simp only[cC,List.mem_cons]at hy;rcases hy with rfl|hy
          ·have h1:=h a (by simp)
           have h2:=h b (by simp);simp only[aaS,aaT,abp];omega
          ·exact ih (λ z hz=>h z (by simp[hz])) y hy
         |case2 l hne=>
          intro h y hy;unfold cC at hy;split at hy
          ·exact(hne _ _ _ rfl).elim
          ·simp at hy
        exact this _ hcs y hy
       have hpl:(cC (kK cl)).length<=1:=by
        rcases e2:kK cl with _|⟨a,_|⟨b,_|⟨c,r⟩⟩⟩
        ·simp[cC]
        ·simp[cC]
        ·simp[cC]
        ·rw[e2]at hl;simp at hl
       have:=xJ hp;have h2:=abH (2022+2) hpl;simp only[aaS,aaT,abp];omega
 have e1:(if ex=[]then []else [32,101,120,116,101,110,100,115,32]++ex:aE).length<=10:=by
  split
  ·simp
  ·simp only[aaS,aaT,abp];omega
 have e2:(CE kd).length<=10:=by
  unfold CE;split
  ·simp
  ·split<;>simp
 simp only[nr];split
 ·simp only[aaS,aaT,abp]at *;omega
 ·split
  ·simp only[aaS,aaT,abp]at *;omega
  ·split
   ·simp only[aaS,aaT,abp]at *;omega
   ·split
    ·simp only[aaS,aaT,abp]at *;omega
    ·simp only[aaS,aaT,abp]at *;omega
theorem Ux{x:D}(h:Je x):Tv x:=by
 obtain⟨il,sl,b,l,rfl,h1,h2,h3,h4⟩:=h;refine⟨true,il,true,sl,b,l,rfl,?_,?_,by omega,?_,?_,λ y hy=>XG (h4 y hy)⟩
 ·rcases h1 with⟨rfl,rfl⟩|⟨rfl,rfl⟩<;>simp
 ·rcases h1 with⟨rfl,rfl⟩|⟨rfl,rfl⟩<;>simp
 ·rcases h1 with⟨rfl,rfl⟩|⟨rfl,rfl⟩
  ·simp
  ·intro y hy;simp only[abK]at hy;subst hy;exact⟨_,rfl,by simp,by decide⟩
 ·rcases h1 with⟨rfl,rfl⟩|⟨rfl,rfl⟩
  ·simp
  ·intro y hy;simp only[abK]at hy;subst hy;exact⟨_,_,rfl,by simp,by simp⟩
theorem M9{x:D}(h:Je x):(mN x).length<=200000:=by
 obtain⟨il,sl,b,l,rfl,h1,h2,h3,h4⟩:=h;have hd:(l.map nr).flatten.length<=9*20000:=abI (iT (B:=20000) λ y hy=>Ql (h4 y hy)) (abH _ h3);simp only[mN,aaS];rcases h1 with⟨rfl,rfl⟩|⟨rfl,rfl⟩
 ·simp only[List.map_nil,List.flatten_nil,abp];omega
 ·simp only[List.map_cons,List.map_nil,List.flatten_cons,List.flatten_nil,zm,vH,aaS,aaT,abp];omega
noncomputable abbrev RY(t:Task):Option Out:=rk prog bT t
theorem ji{k:Nat}{g:List V->List Ob->Option Out}(h:bT.ext k=some g)(args:List V)(S:List Ob):RY (.call k args S)=g args S:=by
 unfold RY;rw[Bp];unfold oN;simp only[h];rw[cQ]
 cases g args S with
 |none=>rfl
 |some o=>rfl
theorem j0{f:Task->Option Out}{l:List D}{i:Nat}{x:D}{w:Nat}(h:l[i]?=some x)(hw:x.width=w){K:D->Tr}:
  aD f (ob (bW l (i:Int)) λ d=>aO (d.width==w) (ob l[((i:Int)).toNat]? λ d1=>aO (decide (w<=d1.width)) (K d1)))=aD f (K x):=by
 subst hw;rw[ct,bz h,abq,aQ,abe,bz h,aN (aa4 _)]
theorem aax{α:Type}(p:List α)(x:α)(r:List α):(p++x::r)[p.length]?=some x:=by simp
theorem iG:∀l:List D,kK l=l.map eB
 | []=>by simp only[kK,List.map_nil]
 |a::l=>by simp only[kK,List.map_cons,iG l]
theorem vp(c:UInt8):∀s:aE,(jI [c] s).isSome=s.contains c
 | []=>by simp[jI]
 |a::s=>by
  unfold jI;by_cases h:c=a
  ·subst h;simp
  ·have:(List.isPrefixOf [c] (a::s))=false:=by simp[List.isPrefixOf,h]
   rw[this,aaN (by decide),Option.isSome_map,vp c s];simp[h]
theorem I0(l:List aE):r8 (l.map .s)=some l:=by
 induction l with
 |nil=>rfl
 |cons a l ih=>simp only[List.map_cons,r8,ih,Option.map_some]
theorem PM{l:List aE}{x:aE}(h:x∈l):x.length<=l.flatten.length:=by
 induction l with
 |nil=>simp at h
 |cons a l ih=>
  rw[List.flatten_cons,aaS];simp only[List.mem_cons]at h;rcases h with rfl|h
  ·omega
  ·have:=ih h;omega
theorem xK{l:List aE}{x sep:aE}(h:x∈l):x.length<=(Lib.join l sep).length:=by
 cases l with
 |nil=>simp at h
 |cons a l=>
  rw[Lib.join_cons,aaS];simp only[List.mem_cons]at h;rcases h with rfl|h
  ·omega
  ·have:(sep++x).length<=(Lib.joinTail sep l).length:=PM (List.mem_map.2 ⟨x,h,rfl⟩);rw[aaS]at this;omega
theorem Bb{B:Nat}:∀{l:List aE},l.length%2=0->(∀y∈cC l,y.length<=B)->∀x∈l,x.length<=B
 | [],_,_,x,hx=>by simp at hx
 | [a],h,_,_,_=>by simp at h
 |a::b::r,h,hp,x,hx=>by
  have h0:=hp (a++[58,32]++b) (by simp[cC]);simp only[aaS]at h0;simp only[List.mem_cons]at hx;rcases hx with rfl|rfl|hx
  ·omega
  ·omega
  ·exact Bb (l:=r) (by simp only[aaT]at h;omega) (λ y hy=>hp y (by simp[cC,hy])) x hx
theorem Fj{k n u:Int}{s:aE}{b:Bool}{l:List D}(hk:k≠0)(hp:k=0\/(1<=k/\k<=5)\/l.length%2=0)(h5:¬(k=1\/k=2\/k=3\/k=4))(hl:(eB (cD k n u s b l)).length<=900000000):∀y∈l,(eB y).length<=900000000:=by
 intro y hy;simp only[cD,eB]at hl;rw[cE,cE,cE,cE]at hl;have hm:eB y∈kK l:=by rw[iG];exact List.mem_map.2 ⟨y,hy,rfl⟩
 split at hl
 ·have:=xK (sep:=[44,32]) hm;simp only[aaS]at hl;omega
 ·rename_i h;refine Bb (l:=kK l) (B:=900000000) (by rw[iG,List.length_map];omega) (λ z hz=>?_) _ hm;have:=xK (sep:=[44,32]) hz;simp only[aaS]at hl;omega
theorem J7(s:aE)(hs:s.length<=2000):RY (.call 28 [vs s] [])=some (.d (.s (fi s)),[]):=by
 have h:RY (.call 57 [vs s,vs [34]] [])=some (.d (.b (s.contains 34)),[]):=by rw[ji (g:=kA) rfl];simp only[kA,aaR (show s.length<=100000/\([34]:aE).length<=100000 from⟨by omega,by decide⟩),vp]
 rw[RY,y28,gJ h];unfold fi;by_cases hc:s.contains 34=true
 ·rw[eH hc,aaR hc,aN,aN (by simp;omega)];rfl
 ·rw[cX (by simpa using hc),aaN hc,aN,aN (by simp;omega)];rfl
theorem nD{d:Nat}{x:D}(h:WC d x):x.width=5:=by
 cases d with
 |zero=>exact h.elim
 |succ d=>obtain⟨_,_,_,_,_,_,rfl,_⟩:=h;rfl
def zO(k d:Nat):Prop:=∀x,WC d x->Kn x->(eB x).length<=900000000->RY (.call k [V.d x] [])=some (.d (.s (eB x)),[])
theorem PV(l:List aE):bA 1 (l.map D.s)=true:=by cases l<;>rfl
theorem uY{d:Nat}(hC:zO 23 d):∀(r p:List D) (b b2:Bool),(∀y∈r,WC d y/\Kn y/\(eB y).length<=900000000)->(p++r).length<=100->
  ∃b',RY (KA ((p++r).length:Int) (p.length:Int) b b2 ((p.map eB).map D.s) (p++r) [])=some (.d (.l b' (((p++r).map eB).map D.s)),[])
 | [],p,b,b2,_,hl=>by
  refine⟨b,?_⟩;rw[abo,RY,GK,bB];rfl
 |x::r,p,b,b2,h,hl=>by
  obtain⟨h1,h2,h3⟩:=h x (by simp);have hc:=hC x h1 h2 h3;obtain⟨b',ih⟩:=uY hC r (p++[x]) (b&&false) b2 (λ y hy=>h y (by simp[hy])) (by simpa using hl);refine⟨b',?_⟩;have hlen:(p++x::r).length=p.length+(r.length+1):=by simp
  have w1:=ca p.length;rw[RY,GK,bC];refine(j0 (aax p x r) (nD h1)).trans ?_
  cases d with
  |zero=>exact h1.elim
  |succ d=>
   obtain⟨k,n,u,s,bb,l,rfl,_⟩:=h1;refine aQ.trans ?_;refine(gG hc).trans ?_;rw[PV,aQ,Bool.or_true,aQ,aN (by simp;omega),w1];rw[abg,List.singleton_append,show (p++[cD k n u s bb l]).length=p.length+1 by simp,List.map_append,List.map_append]at ih;exact aM ih
theorem O6{d:Nat}(hC:zO 23 d)(b:Bool)(l:List D)(h:∀y∈l,WC d y/\Kn y/\(eB y).length<=900000000)(hl:l.length<=100):∃b',RY (.call 52 [vl b l] [])=some (.d (.l b' ((kK l).map D.s)),[]):=by obtain⟨b',h'⟩:=uY hC l [] true b h (by simpa using hl);refine⟨b',?_⟩;rw[RY,y52,iG];exact aM h'
theorem JC(b:Bool)(l:List aE)(t:aE)(hl:l.length<=100000)(ht:(Lib.join l t).length<=1000000000):RY (.call 51 [vl b (l.map D.s),vs t] [])=some (.d (.s (Lib.join l t)),[]):=by rw[ji (g:=sK) rfl];simp only[sK,I0,aaR (show l.length<=100000/\(Lib.join l t).length<=1000000000 from⟨hl,ht⟩)]
theorem Mb{f:Task->Option Out}{l:List D}{i:Nat}{s:aE}(h:l[i]?=some (.s s)){K:aE->Tr}:
  aD f (ob (bW l (i:Int)) λ d=>aO (d.width==1) (ob l[((i:Int)).toNat]? λ d2=>ob d2.cells[0]? λ d3=>fJ d3 K))=aD f (K s):=qi h
theorem yb(l:List aE)(hl:l.length<=1000)(hb:∀y∈l,y.length<=900000000)(hj:(Lib.join (cC l) [44,32]).length<=900000000)(b2:Bool):∀(r p:List aE) (o:List aE) (b:Bool),p++r=l->p.length%2=0->o++cC r=cC l->o.length<=p.length->
  RY (K6 (p.length:Int) b b2 (o.map D.s) (l.map D.s) [])=some (.d (.s ([123]++Lib.join (cC l) [44,32]++[125])),[])
 |x::y::r,p,o,b,e,hp,ho,hop=>by
  have hlen:l.length=p.length+(r.length+2):=by rw[<-e];simp
  have hx:=hb x (by rw[<-e];simp);have hy:=hb y (by rw[<-e];simp);have w1:=ca p.length;have w2:i64.wrap ((p.length:Int)+2)=((p.length+2:Nat):Int):=bD;have g1:(l.map D.s)[p.length]?=some (.s x):=by rw[<-e];simp
  have g2:(l.map D.s)[p.length+1]?=some (.s y):=by rw[<-e];simp
  have ih:=yb l hl hb hj b2 r (p++[x,y]) (o++[x++[58,32]++y]) (b&&false) (by rw[<-e];simp) (by simp;omega) (by rw[<-ho];simp[cC]) (by simp;omega);rw[aaS,aaT,aaT,abp,List.map_append]at ih;rw[RY,uS,w1,bC (by rw[List.length_map];omega),qi g1,aN,qi g2,aN (by simp;omega),PV,aQ,Bool.or_true,aQ,aN (by simp;omega),w2];exact aM ih
 | [x],p,o,b,e,hp,ho,hop=>by
  have hlen:l.length=p.length+1:=by rw[<-e];simp
  have w1:=ca p.length;have ho':o=cC l:=by rw[<-ho];simp[cC]
  rw[RY,uS,w1,bB (by rw[List.length_map];omega)];rw[gG (JC b o [44,32] (by omega) (by rw[ho'];omega)),aN (by rw[ho'];omega),aN (by rw[ho'];simp;omega),ho'];rfl
 | [],p,o,b,e,hp,ho,hop=>by
  have hlen:l.length=p.length:=by rw[<-e];simp
  have w1:=ca p.length;have ho':o=cC l:=by rw[<-ho];simp[cC]
  rw[RY,uS,w1,bB (by rw[List.length_map];omega)];rw[gG (JC b o [44,32] (by omega) (by rw[ho'];omega)),aN (by rw[ho'];omega),aN (by rw[ho'];simp;omega),ho'];rfl
theorem Xn(n:Int)(h:Jd n):RY (.call 49 [vi n,vi 10] [])=some (.d (.s (cU n)),[]):=by rw[ji (g:=qu) rfl];exact aaR (c:=(10:Int)=10/\-9223372036854775808<=n/\n<=9223372036854775807) ⟨rfl,h.1,h.2⟩
theorem X3(n:Int)(h:Jd n):RY (.call 47 [vi n] [])=some (.d (.s (cU n)),[]):=by rw[ji (g:=tL) rfl];simp only[tL,aaR (show -9223372036854775808<=n/\n<=9223372036854775807 from⟨h.1,h.2⟩)]
theorem Zs(n:Int)(h:YE n):RY (.call 50 [vu n] [])=some (.d (.s (gE n.toNat)),[]):=by rw[ji (g:=kL) rfl];simp only[kL,aaR (show 0<=n/\n<18446744073709551616 from⟨h.1,h.2⟩)]
theorem W9(n:Int)(h:YE n):RY (.call 48 [vu n] [])=some (.d (.s (gE n.toNat)),[]):=by rw[ji (g:=kL) rfl];simp only[kL,aaR (show 0<=n/\n<18446744073709551616 from⟨h.1,h.2⟩)]
theorem yc:∀d,zO 23 d
 |0=>λ x h=>h.elim
 |d+1=>λ x h hk hl=>by
  obtain⟨k,n,u,s,b,l,rfl,h1,h2,h3,h4,h5,h6⟩:=h;have hk:k≠0:=hk;have hle:=Fj hk h5 (l:=l) (n:=n) (u:=u) (s:=s) (b:=b);rw[RY,y23];by_cases e1:k=1
  ·rw[bM e1,gG (Xn n h1)];simp only[eB,aaR e1];rfl
  by_cases e2:k=2
  ·rw[bp e1,bM e2,gG (Zs u h2)];simp only[eB,aaN e1,aaR e2];rfl
  by_cases e3:k=3
  ·rw[bp e1,bp e2,bM e3,gG (J7 s h3)];simp only[eB,aaN e1,aaN e2,aaR e3];rfl
  by_cases e4:k=4
  ·rw[bp e1,bp e2,bp e3,bM e4];simp only[eB,aaN e1,aaN e2,aaN e3,aaR e4];rfl
  have hle:=hle (by omega) hl;obtain⟨b',hc⟩:=O6 (yc d) b l (λ y hy=>⟨(h6 y hy).1,(h6 y hy).2,hle y hy⟩) h4;by_cases e5:k=5
  ·have hj:(Lib.join (kK l) [44,32]).length<=900000000:=by simp only[cD,eB,aaN e1,aaN e2,aaN e3,aaN e4,aaR e5,aaS]at hl;omega
   rw[bp e1,bp e2,bp e3,bp e4,bM e5,eR hc,gG (JC b' (kK l) [44,32] (by rw[iG,List.length_map];omega) (by omega)),aN,aN (by simp;omega)];simp only[eB,aaN e1,aaN e2,aaN e3,aaN e4,aaR e5];rfl
  ·have hj:(Lib.join (cC (kK l)) [44,32]).length<=900000000:=by simp only[cD,eB,aaN e1,aaN e2,aaN e3,aaN e4,aaN e5,aaS]at hl;omega
   rw[bp e1,bp e2,bp e3,bp e4,bp e5,eR hc];simp only[eB,aaN e1,aaN e2,aaN e3,aaN e4,aaN e5];exact aM (yb (kK l) (by rw[iG,List.length_map];omega) (λ y hy=>by
    rw[iG]at hy;obtain⟨z,hz,rfl⟩:=List.mem_map.1 hy
    exact hle z hz) hj b' (kK l) [] [] true rfl rfl rfl (aa4 _))
theorem ux(p:List aE)(x sep:aE)(h:p≠[]):Lib.join (p++[x]) sep=Lib.join p sep++sep++x:=by
 cases p with
 |nil=>exact absurd rfl h
 |cons a p=>
  rw[List.cons_append,Lib.join_cons,Lib.join_cons];simp[Lib.joinTail,abg]
theorem pH(p r:List aE)(sep:aE):(Lib.join p sep).length<=(Lib.join (p++r) sep).length:=by
 cases p with
 |nil=>rw[Lib.join_nil];exact Nat.zero_le _
 |cons a p=>
  rw[List.cons_append,Lib.join_cons,Lib.join_cons];simp only[Lib.joinTail,List.map_append,List.flatten_append,aaS];omega
abbrev cO(k n u:Int)(s:aE)(b:Bool)(l:List D):Ob:=Ob.cells (fX s k n u b l) []
theorem yu(k n u:Int)(s:aE)(b:Bool)(l:List D)(hs:s.length<=2000):∀(r p:aE),p++r=s->p.contains 34=false->
  RY (LA (p.length:Int) [cO k n u s b l])=some (.d (.s (fi s)),[])
 | [],p,e,hp=>by
  rw[abo]at e;subst e;rw[RY,qg,bB,aN,aN (by simp;omega)];simp only[fi,hp,Bool.false_eq_true,if_false];rfl
 |c::r,p,e,hp=>by
  have hlen:s.length=p.length+(r.length+1):=by rw[<-e];simp
  have w1:=ca p.length;have g:bW s (p.length:Int)=some c:=by rw[ct,<-e];simp
  by_cases hc:c=34
  ·rw[RY,qg,bC,bz g,bM (by rw[hc];rfl),aN,aN (by simp;omega)]
   have:s.contains 34=true:=by rw[<-e,hc];simp
   simp only[fi,this,if_true];rfl
  ·have h34:((c.toNat:Int))≠34:=λ h=>hc (UInt8.toNat_inj.1 (by simp;omega))
   rw[RY,qg,bC,bz g,bp h34,w1];have ih:=yu k n u s b l hs r (p++[c]) (by rw[<-e];simp) (by
    simp at hp⊢
    exact⟨hp,λ h=>hc h.symm⟩)
   rw[show (p++[c]).length=p.length+1 by simp]at ih;exact aM ih
theorem ym{d:Nat}(hC:zO 22 d)(k n u:Int)(s:aE)(b:Bool)(l:List D)(hl:l.length<=100)(h:∀y∈l,WC d y/\Kn y/\(eB y).length<=900000000)(hj:(Lib.join (l.map eB) [44,32]).length<=900000000):∀(r p:List D),p++r=l->
  RY (KS ([91]++Lib.join (p.map eB) [44,32]) (p.length:Int) [cO k n u s b l])=some (.d (.s ([91]++Lib.join (l.map eB) [44,32]++[93])),[])
 | [],p,e=>by
  rw[abo]at e;subst e;rw[RY,tU,bB,aN (by simp;omega)];rfl
 |x::r,p,e=>by
  have hlen:l.length=p.length+(r.length+1):=by rw[<-e];simp
  have w1:=ca p.length;obtain⟨h1,h2,h3⟩:=h x (by rw[<-e];simp);have hc:=hC x h1 h2 h3;have g:l[p.length]?=some x:=by rw[<-e];simp
  have hpre:=pH ((p++[x]).map eB) (r.map eB) [44,32];rw[<-List.map_append,show (p++[x])++r=l by rw[<-e];simp]at hpre;have hpre0:=pH (p.map eB) ((x::r).map eB) [44,32];rw[<-List.map_append,e]at hpre0;have ih:=ym hC k n u s b l hl h hj r (p++[x]) (by rw[<-e];simp);rw[show (p++[x]).length=p.length+1 by simp]at ih;have step:∀acc:aE,acc.length<=1000000000->acc++eB x=[91]++Lib.join ((p++[x]).map eB) [44,32]->
    RY (KJ acc (p.length:Int) [cO k n u s b l])=some (.d (.s ([91]++Lib.join (l.map eB) [44,32]++[93])),[]):=by
   intro acc ha hacc;rw[RY,ze];refine(j0 g (nD h1)).trans ?_
   cases d with
   |zero=>exact h1.elim
   |succ d=>
    obtain⟨k',n',u',s',bb,l',rfl,_⟩:=h1;refine(gG hc).trans ?_;rw[aN,hacc,w1];exact aM ih
  rw[RY,tU,bC];by_cases hp:p=[]
  ·subst hp;rw[bB (by simp)];refine aM (step _ (by simp[Lib.join_nil]) (by simp[Lib.join_one,Lib.join_nil]))
  ·have:0<p.length:=abR.2 hp;rw[bC,aN (by simp;omega)];refine aM (step _ (by simp;omega) ?_);rw[List.map_append,List.map_singleton,ux _ _ _ (by simpa using hp)];simp[abg]
theorem Bq{d:Nat}(hC:zO 22 d)(k n u:Int)(s:aE)(b:Bool)(l:List D)(hl:l.length<=100)(h:∀y∈l,WC d y/\Kn y/\(eB y).length<=900000000)(hj:(Lib.join (cC (l.map eB)) [44,32]).length<=900000000):∀(r p:List D) (o:List aE),p++r=l->o++cC (r.map eB)=cC (l.map eB)->o.length*2=p.length->
  RY (K7 ([123]++Lib.join o [44,32]) (p.length:Int) [cO k n u s b l])=some (.d (.s ([123]++Lib.join (cC (l.map eB)) [44,32]++[125])),[])
 | [],p,o,e,ho,hop=>by
  have hlen:l.length=p.length:=by rw[<-e];simp
  have w1:=ca p.length;have ho':o=cC (l.map eB):=by rw[<-ho];simp[cC]
  rw[RY,zf,w1,bB,ho',aN (by simp;omega)];rfl
 | [x],p,o,e,ho,hop=>by
  have hlen:l.length=p.length+1:=by rw[<-e];simp
  have w1:=ca p.length;have ho':o=cC (l.map eB):=by rw[<-ho];simp[cC]
  rw[RY,zf,w1,bB,ho',aN (by simp;omega)];rfl
 |x::y::r,p,o,e,ho,hop=>by
  have hlen:l.length=p.length+(r.length+2):=by rw[<-e];simp
  have w1:=ca p.length;have w2:i64.wrap ((p.length:Int)+2)=((p.length+2:Nat):Int):=bD;obtain⟨h1,h2,h3⟩:=h x (by rw[<-e];simp);obtain⟨i1,i2,i3⟩:=h y (by rw[<-e];simp);have hc:=hC x h1 h2 h3;have hd:=hC y i1 i2 i3;have g1:l[p.length]?=some x:=by rw[<-e];simp
  have g2:l[p.length+1]?=some y:=by rw[<-e];simp
  have ho2:(o++[eB x++[58,32]++eB y])++cC (r.map eB)=cC (l.map eB):=by rw[<-ho];simp[cC]
  have hpre:=pH (o++[eB x++[58,32]++eB y]) (cC (r.map eB)) [44,32];rw[ho2]at hpre;have hpre0:=pH o (cC ((x::y::r).map eB)) [44,32];rw[ho]at hpre0;have ih:=Bq hC k n u s b l hl h hj r (p++[x,y]) (o++[eB x++[58,32]++eB y]) (by rw[<-e];simp) ho2 (by simp;omega);rw[show (p++[x,y]).length=p.length+2 by simp]at ih;have step:∀acc:aE,acc.length<=1000000000->acc++eB x++[58,32]++eB y=[123]++Lib.join (o++[eB x++[58,32]++eB y]) [44,32]->
    RY (K0 acc (p.length:Int) [cO k n u s b l])=some (.d (.s ([123]++Lib.join (cC (l.map eB)) [44,32]++[125])),[]):=by
   intro acc ha hacc;rw[RY,I8,w1,w2];refine(j0 g1 (nD h1)).trans ?_
   cases d with
   |zero=>exact h1.elim
   |succ d=>
    obtain⟨k',n',u',s',bb,l',rfl,_⟩:=h1;refine(gG hc).trans ?_;rw[aN,aN (by simp;omega)];refine(j0 g2 (nD i1)).trans ?_;obtain⟨k2,n2,u2,s2,bb2,l2,rfl,_⟩:=i1;refine(gG hd).trans ?_;rw[aN (by simp;omega),hacc];exact aM ih
  rw[RY,zf,w1,bC];by_cases hp:o=[]
  ·subst hp;have:p.length=0:=by simpa using hop.symm
   rw[bB];refine aM (step _ (by simp[Lib.join_nil]) (by simp[Lib.join_one,Lib.join_nil,abg]))
  ·have:0<o.length:=abR.2 hp;rw[bC,aN (by simp;omega)];refine aM (step _ (by simp;omega) ?_);rw[ux _ _ _ hp];simp[abg]
theorem tp:∀d,zO 22 d
 |0=>λ x h=>h.elim
 |d+1=>λ x h hk hl=>by
  obtain⟨k,n,u,s,b,l,rfl,h1,h2,h3,h4,h5,h6⟩:=h;have hk:k≠0:=hk;have hle:=Fj hk h5 (l:=l) (n:=n) (u:=u) (s:=s) (b:=b);rw[RY,y22];by_cases e1:k=1
  ·rw[bM e1,gG (X3 n h1)];simp only[eB,aaR e1];rfl
  by_cases e2:k=2
  ·rw[bp e1,bM e2,gG (W9 u h2)];simp only[eB,aaN e1,aaR e2];rfl
  by_cases e3:k=3
  ·rw[bp e1,bp e2,bM e3];simp only[eB,aaN e1,aaN e2,aaR e3];exact aM (yu k n u s b l h3 s [] rfl rfl)
  by_cases e4:k=4
  ·rw[bp e1,bp e2,bp e3,bM e4];simp only[eB,aaN e1,aaN e2,aaN e3,aaR e4];rfl
  have hle:=hle (by omega) hl;have hy:∀y∈l,WC d y/\Kn y/\(eB y).length<=900000000:=λ y hy=>⟨(h6 y hy).1,(h6 y hy).2,hle y hy⟩
  by_cases e5:k=5
  ·have hj:(Lib.join (l.map eB) [44,32]).length<=900000000:=by simp only[cD,eB,aaN e1,aaN e2,aaN e3,aaN e4,aaR e5,aaS,iG]at hl;omega
   rw[bp e1,bp e2,bp e3,bp e4,bM e5];simp only[eB,aaN e1,aaN e2,aaN e3,aaN e4,aaR e5,iG];exact aM (ym (tp d) k n u s b l h4 hy hj l [] rfl)
  ·have hj:(Lib.join (cC (l.map eB)) [44,32]).length<=900000000:=by simp only[cD,eB,aaN e1,aaN e2,aaN e3,aaN e4,aaN e5,aaS,iG]at hl;omega
   rw[bp e1,bp e2,bp e3,bp e4,bp e5];simp only[eB,aaN e1,aaN e2,aaN e3,aaN e4,aaN e5,iG];exact aM (Bq (tp d) k n u s b l h4 hy hj l [] [] rfl rfl rfl)
def QT(r:Int):aE:=if r=1 then [114,101,113,117,105,114,101,100,32]else if r=2 then [111,112,116,105,111,110,97,108,32]else []
def Y5(h:Bool)(id:Int):aE:=if h=true then cU id++[58,32]else []
def xF(hi:Bool)(c:D):aE:=if hi=true then [32,61,32]++eB c else []
theorem yf(h:Bool)(id r:Int)(t nm:aE)(hi:Bool)(k n u:Int)(s:aE)(b:Bool)(l:List D):sd (fD h id r t nm hi k n u s b l)=Y5 h id++QT r++t++[32]++nm++xF hi (cD k n u s b l):=rfl
theorem j7{n:Int}(h:Jd n):(cU n).length<=100:=by
  unfold cU;obtain⟨h1,h2⟩:=h;split
  · rw [aaT]
    have := jD 20 n.natAbs (by decide) (by have : n.natAbs ≤ 9223372036854775808 := by omega
                                           exact Nat.lt_of_le_of_lt this (by decide))
    omega
  · have := jD 20 n.toNat (by decide) (by have : n.toNat ≤ 9223372036854775808 := by omega
                                          exact Nat.lt_of_le_of_lt this (by decide))
    omega
abbrev fO(h:Bool)(id r:Int)(t nm:aE)(hi:Bool)(k n u:Int)(s:aE)(b:Bool)(l:List D):Ob:=
 Ob.cells (mQ t nm s id r k n u h hi b l) []
section
variable (h : Bool) (id r : Int) (t nm : aE) (hi : Bool) (k n u : Int) (s : aE) (b : Bool) (l : List D) (ht : t.length ≤ 100000000) (hn : nm.length ≤ 2000) (hk : hi = true → k ≠ 0) (hw : WC qS (cD k n u s b l)) (hl : hi = true → (eB (cD k n u s b l)).length ≤ 900000000)
include ht hn hk hw hl
theorem aaG(acc:aE)(ha:acc.length<=1000):RY (Gg acc [fO h id r t nm hi k n u s b l])=some (.d (.s (acc++t++[32]++nm++xF hi (cD k n u s b l))),[]):=by
 rw[RY,Tn,aN,aN (by simp;omega),aN (by simp;omega)]
 cases hi with
 |true=>
  have hl:=hl rfl;rw[bQ];refine(gG (yc qS _ hw (hk rfl) hl)).trans ?_;rw[aN,aN (by simp at hl⊢;omega)];simp only[xF,if_true,aG,abg]
 |false=>
  rw[bH];simp only[xF,Bool.false_eq_true,if_false,aG,abg,abo]
theorem aaF(acc:aE)(ha:acc.length<=900):RY (LD acc [fO h id r t nm hi k n u s b l])=some (.d (.s (acc++QT r++t++[32]++nm++xF hi (cD k n u s b l))),[]):=by
 have e:=λ acc ha=>aaG h id r t nm hi k n u s b l ht hn hk hw hl acc ha;rw[RY,Tm];unfold QT;by_cases h1:r=1
 ·rw[bM h1,aaR h1,aN];exact aM (e _ (by simp;omega))
 ·by_cases h2:r=2
  ·rw[bp h1,aaN h1,bM h2,aaR h2,aN];exact aM (e _ (by simp;omega))
  ·rw[bp h1,aaN h1,bp h2,aaN h2,abo];exact aM (e _ (by omega))
theorem aaJ(acc:aE)(ha:acc.length<=1000):RY (Gh acc [fO h id r t nm hi k n u s b l])=some (.d (.s (acc++t++[32]++nm++xF hi (cD k n u s b l))),[]):=by
 rw[RY,Tq,aN,aN (by simp;omega),aN (by simp;omega)]
 cases hi with
 |true=>
  have hl:=hl rfl;rw[bQ,aN (by simp;omega)];refine(gG (tp qS _ hw (hk rfl) hl)).trans ?_;rw[aN (by simp at hl⊢;omega)];simp only[xF,if_true,aG,abg]
 |false=>
  rw[bH];simp only[xF,Bool.false_eq_true,if_false,aG,abg,abo]
theorem aaI(acc:aE)(ha:acc.length<=900):RY (LF acc [fO h id r t nm hi k n u s b l])=some (.d (.s (acc++QT r++t++[32]++nm++xF hi (cD k n u s b l))),[]):=by
 have e:=λ acc ha=>aaJ h id r t nm hi k n u s b l ht hn hk hw hl acc ha;rw[RY,Tp];unfold QT;by_cases h1:r=1
 ·rw[bM h1,aaR h1,aN];exact aM (e _ (by simp;omega))
 ·by_cases h2:r=2
  ·rw[bp h1,aaN h1,bM h2,aaR h2,aN];exact aM (e _ (by simp;omega))
  ·rw[bp h1,aaN h1,bp h2,aaN h2,abo];exact aM (e _ (by omega))
end
def OH(k:Nat)(W:D->Prop)(pr:D->aE):Prop:=∀x,W x->(pr x).length<=900000000->RY (.call k [V.d x] [])=some (.d (.s (pr x)),[])
theorem Jz{hi:Bool}{c:D}{a:aE}(h:(a++xF hi c).length<=900000000):hi=true->(eB c).length<=900000000:=by rintro rfl;simp only[xF,if_true,aaS]at h;omega
theorem Fm:OH 59 WF sd:=by
 intro x hx hl;obtain⟨h,id,r,t,nm,hi,k,n,u,s,b,l,rfl,h1,h2,h3,h4,h5⟩:=hx;rw[yf]at hl⊢;have e:=λ acc ha=>aaF h id r t nm hi k n u s b l h2 h3 h4 h5 (Jz hl) acc ha;rw[RY,y59]
 cases h with
 |true=>
  have:=j7 h1;rw[bQ,gG (Xn id h1),aN];refine(aM (e _ (by simp;omega))).trans ?_;simp only[Y5,if_true]
 |false=>
  rw[bH];refine(aM (e _ (by simp))).trans ?_;simp only[Y5,Bool.false_eq_true,if_false]
theorem FK:OH 61 WF sd:=by
 intro x hx hl;obtain⟨h,id,r,t,nm,hi,k,n,u,s,b,l,rfl,h1,h2,h3,h4,h5⟩:=hx;rw[yf]at hl⊢;have e:=λ acc ha=>aaI h id r t nm hi k n u s b l h2 h3 h4 h5 (Jz hl) acc ha;rw[RY,y61]
 cases h with
 |true=>
  have:=j7 h1;rw[bQ,gG (X3 id h1),aN];refine(aM (e _ (by simp;omega))).trans ?_;simp only[Y5,if_true]
 |false=>
  rw[bH];refine(aM (e _ (by simp))).trans ?_;simp only[Y5,Bool.false_eq_true,if_false]
theorem tS{x:D}(h:WF x):x.width=11:=by obtain⟨_,_,_,_,_,_,_,_,_,_,_,_,rfl,_⟩:=h;rfl
theorem EF{l:List D}(hl:(fh l).length<=900000000):∀y∈l,(sd y).length<=900000000:=λ y hy=>by
 have:=xK (sep:=[44,32]) (List.mem_map.2 ⟨y,hy,rfl⟩:sd y∈l.map sd);unfold fh at hl;omega
theorem Fp(l:List D)(hl:l.length<=100)(h:∀y∈l,WF y)(hj:(fh l).length<=900000000)(b2:Bool):∀(r p:List D) (b:Bool),p++r=l->
  RY (Kx (l.length:Int) (p.length:Int) b b2 ((p.map sd).map D.s) l [])=some (.d (.s (fh l)),[])
 | [],p,b,e=>by
  rw[abo]at e;subst e;unfold fh at hj⊢;rw[RY,BP,bB,gG (JC b (p.map sd) [44,32] (by rw[List.length_map];omega) (by omega))];rfl
 |x::r,p,b,e=>by
  have hlen:l.length=p.length+(r.length+1):=by rw[<-e];simp
  have w1:=ca p.length;have hx:x∈l:=by rw[<-e];simp
  have hc:=Fm x (h x hx) (EF hj x hx);have hwd:=h x hx;have g:l[p.length]?=some x:=by rw[<-e];simp
  have ih:=Fp l hl h hj b2 r (p++[x]) (b&&false) (by rw[<-e];simp);rw[show (p++[x]).length=p.length+1 by simp,List.map_append,List.map_append]at ih;rw[RY,BP,bC];refine(j0 g (tS hwd)).trans ?_;obtain⟨h,id,r,t,nm,hi,k,n,u,s,bb,l',rfl,_⟩:=hwd;refine aQ.trans ?_;refine(gG hc).trans ?_;rw[PV,aQ,Bool.or_true,aQ,aN (by simp;omega),w1];exact aM ih
theorem Wi(b:Bool)(l:List D)(hl:l.length<=100)(h:∀y∈l,WF y)(hj:(fh l).length<=900000000):RY (.call 124 [vl b l] [])=some (.d (.s (fh l)),[]):=by rw[RY,aba];exact aM (Fp l hl h hj b l [] true rfl)
theorem FM(l:List D)(hl:l.length<=100)(h:∀y∈l,WF y)(hj:(fh l).length<=900000000)(b2:Bool):∀(r p:List D),p++r=l->
  RY (Lp (fh p) (p.length:Int) b2 l [])=some (.d (.s (fh l)),[])
 | [],p,e=>by
  rw[abo]at e;subst e;rw[RY,BQ,bB];rfl
 |x::r,p,e=>by
  have hlen:l.length=p.length+(r.length+1):=by rw[<-e];simp
  have w1:=ca p.length;have hx:x∈l:=by rw[<-e];simp
  have hxl:=EF hj x hx;have hc:=FK x (h x hx) hxl;have hwd:=h x hx;have g:l[p.length]?=some x:=by rw[<-e];simp
  have hpre0:=pH (p.map sd) ((x::r).map sd) [44,32];rw[<-List.map_append,e]at hpre0;have ih:=FM l hl h hj b2 r (p++[x]) (by rw[<-e];simp);rw[show (p++[x]).length=p.length+1 by simp]at ih;have step:∀acc:aE,acc.length<=1000000000->acc++sd x=fh (p++[x])->
    RY (Lf acc (p.length:Int) b2 l [])=some (.d (.s (fh l)),[]):=by
   intro acc ha hacc;rw[RY,Gy,w1];refine(j0 g (tS hwd)).trans ?_;obtain⟨h,id,r,t,nm,hi,k,n,u,s,bb,l',rfl,_⟩:=hwd;refine(gG hc).trans ?_;rw[aN,hacc];exact aM ih
  unfold fh at *;rw[RY,BQ,bC];by_cases hp:p=[]
  ·subst hp;rw[bB (by simp)];refine aM (step _ (by simp[Lib.join_nil]) (by simp[Lib.join_one,Lib.join_nil]))
  ·have:0<p.length:=abR.2 hp;rw[bC,aN];refine aM (step _ (by simp;omega) ?_);rw[List.map_append,List.map_singleton,ux _ _ _ (by simpa using hp)]
theorem Wj(b:Bool)(l:List D)(hl:l.length<=100)(h:∀y∈l,WF y)(hj:(fh l).length<=900000000):RY (.call 125 [vl b l] [])=some (.d (.s (fh l)),[]):=by rw[RY,abb];exact aM (FM l hl h hj b l [] rfl)
def XT(ow:Bool):aE:=if ow=true then [111,110,101,119,97,121,32]else []
def zM(tl:List D):aE:=if tl=[]then []else [32,116,104,114,111,119,115,32,40]++fh tl++[41]
theorem J6(nm:aE)(ow:Bool)(ret:aE)(ab:Bool)(al:List D)(tb:Bool)(tl:List D):iU (Uw nm ow ret ab al tb tl)=[32,32]++XT ow++ret++[32]++nm++[40]++fh al++[41]++zM tl++[44,10]:=rfl
theorem Rx{tl:List D}{a c:aE}(h:(a++zM tl++c).length<=900000000):(fh tl).length<=900000000:=by
 by_cases ht:tl=[]
 ·subst ht;simp[fh,Lib.join_nil]
 ·simp only[zM,aaN ht,aaS]at h;omega
theorem NG:OH 62 zP iU:=by
 intro x hx hl;obtain⟨nm,ow,ret,ab,al,tb,tl,rfl,h1,h2,h3,h4,h5,h6⟩:=hx;rw[J6]at hl⊢;have ha:(fh al).length<=900000000:=by simp only[aaS]at hl;omega
 have ht:=Rx hl;have c1:=Wj ab al h3 h5 ha;have c2:=Wj tb tl h4 h6 ht;have e:∀acc:aE,acc.length<=1000->RY (LG acc [aC (zl nm ret ow ab tb al tl)])=
   some (.d (.s (acc++ret++[32]++nm++[40]++fh al++[41]++zM tl++[44,10])),[]):=by
  intro acc hacc;rw[RY,Ts,aN,aN (by simp;omega),aN (by simp;omega),aN (by simp;omega),gG c1,aN (by simp;omega),aN (by simp;omega)];by_cases h0:tl=[]
  ·subst h0;rw[bB (by simp)];refine(aM (o:=_) ?_);rw[RY,GN,aN (by simp;omega)];simp only[zM,if_true,abo];rfl
  ·have:0<tl.length:=abR.2 h0;rw[bC,aN (by simp;omega),gG c2,aN (by simp;omega),aN (by simp;omega)];refine(aM (o:=_) ?_);rw[RY,GN,aN (by simp;omega)];simp only[zM,aaN h0,aG,abg]
 rw[RY,y62]
 cases ow with
 |true=>rw[bQ];exact aM (e _ (by simp))
 |false=>rw[bH];exact aM (e _ (by simp))
end Go.Dn.Dec
