/- the document's lexer: number. -/
import Derived.Test.YtbjllhjbhdjfjaaGreatDoorP7
import Derived.Test.YtbjllhjbhdjfjaaGreatDoorP6
import Derived.KernelRfl
import Derived.Test.YtbjllhjbhdjfjaaGreatDoorP4
import Derived.Test.YtbjllhjbhdjfjaaGreatDoorP5
set_option linter.unusedVariables false
set_option linter.unusedSimpArgs false
set_option linter.unusedSectionVars false
namespace Go.Dn.Dec
open Go.IntKind (i64 u64 u8 u16 i32 u32)
open Go.Proofs
open Tryz (prog)
section
variable {f : Task → Option Out}
theorem jj{a c d:V}{i:Int}{K:Int->Tr}:aC f (ob [a,vi i,c,d][1]? λ v=>bm v λ d=>bR .i64 d λ n=>K n)=aC f (K i):=by rw[aR (a:=vi i) (by rfl),bM,bS]
theorem kC{b c d:V}{s:mP}{K:mP->Tr}:aC f (ob [vs s,b,c,d][0]? λ v=>bm v λ d=>eF d λ n=>K n)=aC f (K s):=by rw[aR (a:=vs s) (by rfl),bM,iE]
theorem uJ{b:Bool}{X:Tr}(h:b=true):aC f (aH b X)=aC f X:=by rw[h,aN]
theorem yI(a b c d v:V):[a,b,c,d].set 1 v=[a,v,c,d]:=rfl
end
theorem Av(c:UInt8)(q:mP):eZ (c::q)=if c=101\/c=69 then(if (((c::q).drop (jo q)).takeWhile aG)=[]then 0 else jo q+(((c::q).drop (jo q)).takeWhile aG).length)else 0:=rfl
theorem Au(d:UInt8)(q:mP):jo (d::q)=if d=43\/d=45 then 2 else 1:=rfl
abbrev nv(a:Nat)(r:List (Nat×V)):List (Nat×V):=(0,V.p 0 0)::(2,V.p 1 0)::(3,vi (a:Int))::r
abbrev yg(a:Nat)(wh fr:Bool)(o:Ob):Task:=Task.at_ 99 1 (fw 447) (sv 242 (nv a [(4,vb wh),(97,vb fr)])) [] [dU,o]
abbrev qk(a:Nat)(wh ex:Bool)(o:Ob):Task:=Task.at_ 99 1 (fw 895) (sv 242 (nv a [(4,vb wh),(140,vb ex)])) [] [dU,o]
abbrev yf(a:Nat)(wh sg:Bool)(o:Ob):Task:=Task.at_ 99 1 (fw 3455) (sv 242 (nv a [(4,vb wh),(5,vb sg)])) [] [dU,o]
abbrev lR(a:Nat)(wh sg go:Bool)(o:Ob):Task:=Task.at_ 99 1 (fw 7551) (sv 242 (nv a [(4,vb wh),(5,vb sg),(186,vb go)])) [] [dU,o]
theorem KJ(s:mP)(i:Nat)(m w:Int)(a:Nat):∃cs,oA s i m w a = .cells cs []/\cs.length=4:=by
 unfold oA aW;split
 ·exact⟨_,rfl,rfl⟩
 ·split
  ·exact⟨_,rfl,rfl⟩
  ·exact⟨_,rfl,rfl⟩
theorem pj(s:mP)(x:Nat)(hx:x<=s.length)(w er:Int)(k:Nat)(n:Int)(d a:Nat):
  rk prog aF (.at_ 99 1 (fw 4095) (xM er) []
   [Ob.cells (nE (k:Int) [] n (d:Int) (a:Int)) [],dU,aW s (x:Int) 0 w])=
   some (.d (Tok.D ⟨k,[],n,d,a⟩),[oA s x er w a]):=by
 have hb:=Ak s x hx ⟨k,[],n,d,a⟩ er w;obtain⟨cs,hcs,hl⟩:=KJ s x er w a;have hb:rk prog aF (.call 151 [V.p 0 0,V.d (D.g [D.i .i64 (k:Int),D.s [],D.i .i64 n,D.i .u64 (d:Int),D.i .i64 (a:Int)]),vi er] [aW s (x:Int) 0 w])=
   some (.d (D.g [D.i .i64 (k:Int),D.s [],D.i .i64 n,D.i .u64 (d:Int),D.i .i64 (a:Int)]),[.cells cs []]):=by rw[<-hcs];exact hb
 rw[hcs];unfold dU;unfold aW at *;rw[G6,D1 hb (by exact hl) (by rfl) (by rfl),aD];rfl
def xe(s:mP)(a x:Nat)(w:Int):Option Out:=some (.d (Tok.D ⟨3,[],0,(dp ((s.drop a).take (x-a))).1,a⟩),[oA s x (dp ((s.drop a).take (x-a))).2 w a])
theorem K2(s:mP)(hs:s.length<=2000):rk prog aF (.call 150 [vs s] [])=some (.t [.d (.i .u64 ((dp s).1:Nat)),.d (.i .i64 (dp s).2)],[]):=by rw[Im s hs,Rw];rfl
section
variable (s : mP) (hs : s.length ≤ 2000) (a x : Nat) (hax : a ≤ x) (hx : x ≤ s.length) (w : Int)
include hs hax hx
set_option linter.unusedSectionVars false in
theorem DU:List.take (((x:Int)).toNat-((a:Nat):Int).toNat) (List.drop ((a:Nat):Int).toNat s)=(s.drop a).take (x-a):=by rw[Int.toNat_natCast,Int.toNat_natCast]
theorem TD:rk prog aF (.call 150 [vs ((s.drop a).take (x-a))] [])=some (.t [.d (.i .u64 ((dp ((s.drop a).take (x-a))).1:Nat)),.d (.i .i64 (dp ((s.drop a).take (x-a))).2)],[]):=
 K2 _ (by rw[List.length_take,List.length_drop];omega)
theorem HU:rk prog aF (qk a false false (aW s (x:Int) 0 w))=xe s a x w:=by have hc:=DU s hs a x hax hx;have hp:=TD s hs a x hax hx;have hf:=pj s x hx w (dp ((s.drop a).take (x-a))).2 3 0 (dp ((s.drop a).take (x-a))).1 a;unfold xe;rw[<-hf];unfold qk dU aW;rw[pW,bo,bo,kC,jj,aJ,aJ,hc,vQ hp,aA];rfl
theorem Fg(sg:Bool):rk prog aF (lR a false sg false (aW s (x:Int) 0 w))=xe s a x w:=by have hc:=DU s hs a x hax hx;have hp:=TD s hs a x hax hx;have hf:=pj s x hx w (dp ((s.drop a).take (x-a))).2 3 0 (dp ((s.drop a).take (x-a))).1 a;unfold xe;rw[<-hf];unfold lR dU aW;rw[nJ,bo,bo,kC,jj,aJ,aJ,hc,vQ hp,aA];rfl
theorem CM{n er:Int}(h:rk prog aF (.call 149 [vs ((s.drop a).take (x-a))] [])=some (.t [.d (.i .i64 n),.d (.i .i64 er)],[])):
  rk prog aF (qk a true false (aW s (x:Int) 0 w))=some (.d (Tok.D ⟨2,[],n,0,a⟩),[oA s x er w a]):=by
 have hc:=DU s hs a x hax hx;have hf:=pj s x hx w er 2 n 0 a;rw[<-hf];unfold qk dU aW;rw[pW,bo,bF,kC,jj,aJ,aJ,hc,vQ h,aA];rfl
theorem zJ(sg:Bool){n er:Int}(h:rk prog aF (.call 149 [vs ((s.drop a).take (x-a))] [])=some (.t [.d (.i .i64 n),.d (.i .i64 er)],[])):
  rk prog aF (lR a true sg false (aW s (x:Int) 0 w))=some (.d (Tok.D ⟨2,[],n,0,a⟩),[oA s x er w a]):=by
 have hc:=DU s hs a x hax hx;have hf:=pj s x hx w er 2 n 0 a;rw[<-hf];unfold lR dU aW;rw[nJ,bo,bF,kC,jj,aJ,aJ,hc,vQ h,aA];rfl
end
theorem Bb(s:mP)(hs:s.length<=2000)(a x k:Nat)(hk:k=1\/k=2)(hax:a<=x)(hx:x+k<=s.length)(w:Int)(wh:Bool):
  rk prog aF (lR a wh (decide (k=2)) true (aW s (x:Int) 0 w))=xe s a (x+k+((s.drop (x+k)).takeWhile aG).length) w:=by
 have hle:=gB (s.drop (x+k)) aG;rw[List.length_drop]at hle;have hdg:=tS s (by omega) (x+k) hx 0 w;have hc:=DU s hs a (x+k+((s.drop (x+k)).takeWhile aG).length) (by omega) (by omega);have hp:=TD s hs a (x+k+((s.drop (x+k)).takeWhile aG).length) (by omega) (by omega);have hf:=pj s (x+k+((s.drop (x+k)).takeWhile aG).length) (by omega) w (dp ((s.drop a).take (x+k+((s.drop (x+k)).takeWhile aG).length-a))).2 3 0 (dp ((s.drop a).take (x+k+((s.drop (x+k)).takeWhile aG).length-a))).1 a;have w1:=Wv x;unfold xe;rw[<-hf];rcases hk with rfl|rfl
 ·rw[show decide ((1:Nat)=2)=false from rfl];unfold lR dU;unfold aW at *;rw[nJ,bF,jj,uJ (by rfl),w1,bo,yI,dr hdg (by rfl) (by rfl),kC,jj,aJ,aJ,hc,vQ hp,aA];rfl
 ·have w2:i64.wrap (((x+1:Nat):Int)+1)=((x+2:Nat):Int):=U5;rw[show decide ((2:Nat)=2)=true from rfl];unfold lR dU;unfold aW at *;rw[nJ,bF,jj,uJ (by rfl),w1,bF,yI,jj,uJ (by rfl),w2,yI,dr hdg (by rfl) (by rfl),kC,jj,aJ,aJ,hc,vQ hp,aA];rfl
theorem OD(s:mP)(hs:s.length<=2000)(a x:Nat)(hax:a<=x)(c:UInt8)(hd:s.drop x=c::s.drop (x+1))(hc:c=101\/c=69)(hx:x<s.length)(w:Int)(wh:Bool):
  rk prog aF (qk a wh true (aW s (x:Int) 0 w))=
   if eZ (s.drop x)≠0 then xe s a (x+eZ (s.drop x)) w else rk prog aF (lR a wh (decide (jo (s.drop (x+1))=2)) false (aW s (x:Int) 0 w)):=by
 have w1:=Wv x;have hh1:rk prog aF (.call 148 [V.p 0 0,vi 1] [aW s (x:Int) 0 w])=_:=GZ s (by omega) x 1 (by omega) (by omega) 0 w;have hh2:rk prog aF (.call 148 [V.p 0 0,vi 2] [aW s (x:Int) 0 w])=_:=GZ s (by omega) x 2 (by omega) (by omega) 0 w;have hgd1:=Cb (s.drop x) 1;have hgd2:=Cb (s.drop x) 2;have hE:eZ (s.drop x)=if ((s.drop x).drop (jo (s.drop (x+1)))).takeWhile aG=[]then 0 else jo (s.drop (x+1))+(((s.drop x).drop (jo (s.drop (x+1)))).takeWhile aG).length:=by rw[hd,Av,if_pos hc]
 have hsg:rk prog aF (qk a wh true (aW s (x:Int) 0 w))=rk prog aF (yf a wh (decide (jo (s.drop (x+1))=2)) (aW s (x:Int) 0 w)):=by
  rcases Nat.lt_or_ge (x+1) s.length with hlt|hge
  ·obtain⟨d,hd2,hg2⟩:=drop_at hlt;have e43:((d.toNat:Int)==43)=(d==43):=cd d 43;have Dv:((d.toNat:Int)==45)=(d==45):=cd d 45;rw[hd2,Au];unfold qk yf dU aW;rw[pW,bF,jj,kC,w1,bz,kC,jj,w1,aR hg2,e43];by_cases h43:d=43
   ·rw[dz (beq_iff_eq.2 h43),aA,if_pos (Or.inl h43)];rfl
   ·rw[cF (beq_eq_false_iff_ne.2 h43),kC,jj,w1,aR hg2,aA,Dv];by_cases h45:d=45
    ·rw[if_pos (Or.inr h45),beq_iff_eq.2 h45];rfl
    ·rw[if_neg (by rintro(h|h);exact h43 h;exact h45 h),beq_eq_false_iff_ne.2 h45];rfl
  ·rw[List.drop_eq_nil_of_le hge];unfold qk yf dU aW;rw[pW,bF,jj,kC,w1,bn,aA];rfl
 rw[hsg,hE];have hK:jo (s.drop (x+1))=1\/jo (s.drop (x+1))=2:=by
  unfold jo;split
  ·split
   ·exact Or.inr rfl
   ·exact Or.inl rfl
  ·exact Or.inl rfl
 have h7f:∀sg:Bool,rk prog aF (lR a wh sg true (aW s (x:Int) 0 w))=rk prog aF (lR a wh sg true (aW s (x:Int) 0 w)):=λ _=>rfl;rcases hK with hK|hK
 ·rw[hK,show decide ((1:Nat)=2)=false from rfl]
  cases hdg:aG ((s.drop x).getD 1 0) with
  |true=>
   have hne:=hgd1.1 hdg;have hlen:x+1<=s.length:=by omega
   have h7:=Bb s hs a x 1 (Or.inl rfl) hax hlen w wh;rw[if_neg hne,if_pos (by omega),<-Nat.add_assoc,List.drop_drop,<-h7,show decide ((1:Nat)=2)=false from rfl];rw[hdg]at hh1;unfold yf lR dU;unfold aW at *;rw[nI,dr hh1 (by rfl) (by rfl),bF,aA]
  |false=>
   have hnil:((s.drop x).drop 1).takeWhile aG=[]:=by
    rcases Classical.em (((s.drop x).drop 1).takeWhile aG=[])with h|h
    ·exact h
    ·have:=hgd1.2 h;rw[hdg]at this;cases this
   rw[if_pos hnil,UM];rw[hdg]at hh1;unfold yf lR dU;unfold aW at *;rw[nI,dr hh1 (by rfl) (by rfl),bo,bo,aA]
 ·-- a sign: the byte behind the letter is no digit
  have hno:aG ((s.drop x).getD 1 0)=false:=by
   rw[hd,List.getD_cons_succ]
   cases hq:s.drop (x+1) with
   |nil=>rfl
   |cons d q=>
    rw[hq]at hK;rw[Au]at hK;split at hK
    ·rename_i h;show aG d=false;rcases h with rfl|rfl<;>rfl
    ·omega
  rw[hno]at hh1;rw[hK,show decide ((2:Nat)=2)=true from rfl]
  cases hdg:aG ((s.drop x).getD 2 0) with
  |true=>
   have hne:=hgd2.1 hdg;have hlen:x+2<=s.length:=by
    rcases Nat.lt_or_ge s.length (x+2)with h|h
    ·rw[List.drop_drop,List.drop_eq_nil_of_le (by omega)]at hne;exact absurd rfl hne
    ·exact h
   have h7:=Bb s hs a x 2 (Or.inr rfl) hax hlen w wh;rw[if_neg hne,if_pos (by omega),<-Nat.add_assoc,List.drop_drop,<-h7,show decide ((2:Nat)=2)=true from rfl];rw[hdg]at hh2;unfold yf lR dU;unfold aW at *;rw[nI,dr hh1 (by rfl) (by rfl),bo,bF,dr hh2 (by rfl) (by rfl),aA]
  |false=>
   have hnil:((s.drop x).drop 2).takeWhile aG=[]:=by
    rcases Classical.em (((s.drop x).drop 2).takeWhile aG=[])with h|h
    ·exact h
    ·have:=hgd2.2 h;rw[hdg]at this;cases this
   rw[if_pos hnil,UM];rw[hdg]at hh2;unfold yf lR dU;unfold aW at *;rw[nI,dr hh1 (by rfl) (by rfl),bo,bF,dr hh2 (by rfl) (by rfl),aA]
def D6(s:mP)(a x:Nat)(w:Int)(wh:Bool)(n er:Int):Option Out:=
 if eZ (s.drop x)≠0 then xe s a (x+eZ (s.drop x)) w else if wh=true then some (.d (Tok.D ⟨2,[],n,0,a⟩),[oA s x er w a])else xe s a x w
theorem JP(s:mP)(hs:s.length<=2000)(a x:Nat)(hax:a<=x)(hx:x<=s.length)(w:Int)(wh:Bool)(n er:Int)
  (h10:wh=true->rk prog aF (.call 149 [vs ((s.drop a).take (x-a))] [])=some (.t [.d (.i .i64 n),.d (.i .i64 er)],[])) (b:Bool)
  (hb:b=((s.drop x).getD 0 0==101||(s.drop x).getD 0 0==69)):
  rk prog aF (qk a wh b (aW s (x:Int) 0 w))=D6 s a x w wh n er:=by
 unfold D6
 cases b with
 |true=>
  rcases Nat.lt_or_ge x s.length with hlt|hge
  ·obtain⟨c,hd,hg⟩:=drop_at hlt;rw[hd,List.getD_cons_zero]at hb;have hc:c=101\/c=69:=by simpa using hb.symm
   rw[OD s hs a x hax c hd hc hlt w wh];by_cases h:eZ (s.drop x)≠0
   ·rw[if_pos h,if_pos h]
   ·rw[if_neg h,if_neg h]
    cases wh with
    |true=>rw[if_pos rfl];exact zJ s hs a x hax hx w _ (h10 rfl)
    |false=>rw[if_neg (by decide)];exact Fg s hs a x hax hx w _
  ·rw[List.drop_eq_nil_of_le hge]at hb;exact absurd hb (by decide)
 |false=>
  have h0:eZ (s.drop x)=0:=by
   cases hq:s.drop x with
   |nil=>rfl
   |cons c q=>
    rw[hq,List.getD_cons_zero]at hb;have hc:¬(c=101\/c=69):=by rintro(rfl|rfl)<;>exact absurd hb (by decide)
    rw[Av,if_neg hc]
  rw[UM]
  cases wh with
  |true=>rw[if_pos rfl];exact CM s hs a x hax hx w (h10 rfl)
  |false=>rw[if_neg (by decide)];exact HU s hs a x hax hx w
theorem OB(s:mP)(a x:Nat)(hx:x<=s.length)(w:Int)(wh:Bool):
  rk prog aF (yg a wh false (aW s (x:Int) 0 w))=rk prog aF (qk a wh ((s.drop x).getD 0 0==101||(s.drop x).getD 0 0==69) (aW s (x:Int) 0 w)):=by
 rcases Nat.lt_or_ge x s.length with hlt|hge
 ·obtain⟨c,hd,hg⟩:=drop_at hlt;have e101:((c.toNat:Int)==101)=(c==101):=cd c 101;have e69:((c.toNat:Int)==69)=(c==69):=cd c 69;rw[hd,List.getD_cons_zero];unfold yg qk dU aW;rw[pV,bo,jj,kC,bz,kC,jj,aR hg,e101]
  cases h:(c==101) with
  |true=>rw[bF,aA];rfl
  |false=>rw[bo,kC,jj,aR hg,aA,e69];rfl
 ·rw[List.drop_eq_nil_of_le hge];unfold yg qk dU aW;rw[pV,bo,jj,kC,bn,aA];rfl
theorem OC(s:mP)(hs:s.length<=2000)(a x:Nat)(hx:x+1<=s.length)(w:Int)(wh:Bool)(y:Nat)(hy:y=x+1+((s.drop (x+1)).takeWhile aG).length):
  rk prog aF (yg a wh true (aW s (x:Int) 0 w))=rk prog aF (qk a false ((s.drop y).getD 0 0==101||(s.drop y).getD 0 0==69) (aW s (y:Int) 0 w)):=by
 have hle:=gB (s.drop (x+1)) aG;rw[List.length_drop]at hle;have w1:=Wv x;have hdg:=tS s (by omega) (x+1) hx 0 w;rw[<-hy]at hdg;rcases Nat.lt_or_ge y s.length with hlt|hge
 ·obtain⟨c,hd,hg⟩:=drop_at hlt;have e101:((c.toNat:Int)==101)=(c==101):=cd c 101;have e69:((c.toNat:Int)==69)=(c==69):=cd c 69;rw[hd,List.getD_cons_zero];unfold yg qk dU;unfold aW at *;rw[pV,bF,jj,uJ (by rfl),w1,yI,dr hdg (by rfl) (by rfl),jj,kC,bz,kC,jj,aR hg,e101]
  cases h:(c==101) with
  |true=>rw[bF,aA];rfl
  |false=>rw[bo,kC,jj,aR hg,aA,e69];rfl
 ·rw[List.drop_eq_nil_of_le hge];unfold yg qk dU;unfold aW at *;rw[pV,bF,jj,uJ (by rfl),w1,yI,dr hdg (by rfl) (by rfl),jj,kC,bn,aA];rfl
theorem TV(s:mP)(hs:s.length<=2000)(a sg:Nat)(hsg:sg=0\/sg=1)(ha:a+sg<=s.length)(w:Int)(x:Nat)(hxx:x=a+sg+((s.drop (a+sg)).takeWhile aG).length):
  rk prog aF (.at_ 99 1 (fw 55) (sv 242 (nv a [(62,vb (decide (sg=1)))])) [] [dU,aW s (a:Int) 0 w])=
   rk prog aF (yg a true (decide (dt (s.drop x)≠0)) (aW s (x:Int) 0 w)):=by
 have hle:=gB (s.drop (a+sg)) aG;rw[List.length_drop]at hle;have hdg:=tS s (by omega) (a+sg) ha 0 w;rw[<-hxx]at hdg;have hx:x<=s.length:=by omega
 have hh:rk prog aF (.call 148 [V.p 0 0,vi 1] [aW s (x:Int) 0 w])=_:=GZ s (by omega) x 1 hx (by omega) 0 w;have hF:decide (dt (s.drop x)≠0)=((s.drop x).getD 0 0==46&&aG ((s.drop x).getD 1 0)):=by
  rw[wu];by_cases h46:(s.drop x).getD 0 0=46
  ·cases h:aG ((s.drop x).getD 1 0) with
   |true=>rw[if_pos ⟨h46,rfl⟩,decide_eq_true (by omega),beq_iff_eq.2 h46];rfl
   |false=>rw[if_neg (by rintro⟨-,h⟩;cases h),Bool.and_false];rfl
  ·rw[if_neg (λ h=>h46 h.1),beq_eq_false_iff_ne.2 h46];rfl
 have w1:=Wv a;rw[hF];rcases hsg with rfl|rfl
 ·rw[show decide ((0:Nat)=1)=false from rfl];rw[Nat.add_zero]at hdg;rcases Nat.lt_or_ge x s.length with hlt|hge
  ·obtain⟨c,hd,hg⟩:=drop_at hlt;have sq:((c.toNat:Int)==46)=(c==46):=cd c 46;rw[hd,List.getD_cons_zero,<-hd];unfold yg dU;unfold aW at *;rw[ss,bo,dr hdg (by rfl) (by rfl),jj,kC,bz,kC,jj,aR hg,sq]
   cases h:(c==46) with
   |true=>rw[bF,dr hh (by rfl) (by rfl),aA];rfl
   |false=>rw[bo,aA];rfl
  ·rw[List.drop_eq_nil_of_le hge];unfold yg dU;unfold aW at *;rw[ss,bo,dr hdg (by rfl) (by rfl),jj,kC,bn,aA];rfl
 ·rw[show decide ((1:Nat)=1)=true from rfl];rcases Nat.lt_or_ge x s.length with hlt|hge
  ·obtain⟨c,hd,hg⟩:=drop_at hlt;have sq:((c.toNat:Int)==46)=(c==46):=cd c 46;rw[hd,List.getD_cons_zero,<-hd];unfold yg dU;unfold aW at *;rw[ss,bF,w1,dr hdg (by rfl) (by rfl),jj,kC,bz,kC,jj,aR hg,sq]
   cases h:(c==46) with
   |true=>rw[bF,dr hh (by rfl) (by rfl),aA];rfl
   |false=>rw[bo,aA];rfl
  ·rw[List.drop_eq_nil_of_le hge];unfold yg dU;unfold aW at *;rw[ss,bF,w1,dr hdg (by rfl) (by rfl),jj,kC,bn,aA];rfl
theorem Vm(s:mP)(hs:s.length<=2000)(a sg:Nat)(hsg:sg=0\/sg=1)(hsgl:(s.drop a).take sg=[]\/(s.drop a).take sg=[43]\/(s.drop a).take sg=[45])(ha:a+sg<=s.length)
  (hnd:¬((s.drop (a+sg)).takeWhile aG=[]/\dt (s.drop (a+sg))=0)) (w:Int):
  gR s a w (Fe (s.drop a) sg a) (rk prog aF (.at_ 99 1 (fw 55) (sv 242 (nv a [(62,vb (decide (sg=1)))])) [] [dU,aW s (a:Int) 0 w])):=by
 have hle:=gB (s.drop (a+sg)) aG;rw[List.length_drop]at hle;have hself:=jg (s.drop (a+sg)) aG;have hall:=tt aG (s.drop (a+sg));rw[TV s hs a sg hsg ha w _ rfl];unfold Fe;simp only;rw[List.drop_drop,if_neg hnd];generalize hds:(s.drop (a+sg)).takeWhile aG=ds at *;have hd1:(s.drop (a+sg)).drop ds.length=s.drop (a+sg+ds.length):=by rw[List.drop_drop]
 have hd2:(s.drop (a+sg)).drop (ds.length+dt (s.drop (a+sg+ds.length)))=s.drop (a+sg+ds.length+dt (s.drop (a+sg+ds.length))):=by rw[List.drop_drop];congr 1;omega
 rw[hd1,hd2];have hfl:=xP (s.drop (a+sg+ds.length));rw[List.length_drop]at hfl;have hel:=Ck (s.drop (a+sg+ds.length+dt (s.drop (a+sg+ds.length))));rw[List.length_drop]at hel;generalize hfa:dt (s.drop (a+sg+ds.length))=fa at *;have dbl:∀y:Nat,y=a+(sg+(ds.length+(fa+eZ (s.drop (a+sg+ds.length+fa)))))->gR s a w
   (if (dp ((s.drop a).take (sg+(ds.length+(fa+eZ (s.drop (a+sg+ds.length+fa))))))).2≠0 then .inr ((dp ((s.drop a).take (sg+(ds.length+(fa+eZ (s.drop (a+sg+ds.length+fa))))))).2,a)
    else oB (s.drop a) (sg+(ds.length+(fa+eZ (s.drop (a+sg+ds.length+fa))))) a ⟨3,[],0,(dp ((s.drop a).take (sg+(ds.length+(fa+eZ (s.drop (a+sg+ds.length+fa))))))).1,a⟩)
   (xe s a y w):=by
  intro y hy;unfold xe;rw[hy,Nat.add_sub_cancel_left];generalize sg+(ds.length+(fa+eZ (s.drop (a+sg+ds.length+fa))))=n;generalize dp ((s.drop a).take n)=p;by_cases hp:p.2≠0
  ·rw[if_pos hp];exact lB s a _ p.2 w hp _
  ·rw[if_neg hp,show p.2=0 by omega];exact rS s a n w _
 by_cases h0:fa=0
 ·-- no fraction
  subst h0;rw[Nat.add_zero]at *;rw[show decide ((0:Nat)≠0)=false from rfl,OB s a _ (by omega) w true];have hds0:ds≠[]:=by intro e;apply hnd;refine⟨e,?_⟩;rw[e]at hfa;exact hfa
  have htk:(s.drop a).take (sg+ds.length)=(s.drop a).take sg++ds:=by rw[List.take_add,List.drop_drop,<-hself]
  have hpos:0<ds.length:=List.length_pos_iff.2 hds0;have hne:(s.drop a).take sg++ds≠[]:=by simp[hds0]
  have hh:((s.drop a).take sg++ds).head?=(s.drop a).head?:=by rw[<-htk,List.head?_take,UM]
  have h10:=Tg ((s.drop a).take sg) ds hsgl (λ c h=>List.all_eq_true.1 hall c h) hne (by rw[<-htk,List.length_take,List.length_drop];omega);rw[hh,<-htk]at h10;have hsub:a+sg+ds.length-a=sg+ds.length:=by omega
  generalize hv:eD ((s.drop a).head?==some 45) (cI ds)=v at *;have key:∀(n er:Int),rk prog aF (.call 149 [vs ((s.drop a).take (sg+ds.length))] [])=some (.t [.d (.i .i64 n),.d (.i .i64 er)],[])->
    rk prog aF (qk a true ((s.drop (a+sg+ds.length)).getD 0 0==101||(s.drop (a+sg+ds.length)).getD 0 0==69) (aW s ((a+sg+ds.length:Nat):Int) 0 w))=D6 s a (a+sg+ds.length) w true n er:=by
   intro n er h;exact JP s hs a (a+sg+ds.length) (by omega) (by omega) w true n er (λ _=>by rw[hsub];exact h) _ rfl
  by_cases hfb:eZ (s.drop (a+sg+ds.length))=0
  ·rw[if_pos ⟨rfl,hfb⟩];rw[hfb,Nat.add_zero];by_cases h60:60<ds.length
   ·rw[if_pos h60]at h10;rw[if_pos h60,key 0 4 h10];unfold D6;rw[hfb,if_neg (by decide),if_pos rfl];exact lB s a _ 4 w (by decide) _
   ·rw[if_neg h60]at h10;rw[if_neg h60];unfold Gm at h10
    cases hv2:v.2 with
    |false=>
     rw[hv2,if_neg (by decide)]at h10;rw[if_pos rfl,key 0 5 h10];unfold D6;rw[hfb,if_neg (by decide),if_pos rfl];exact lB s a _ 5 w (by decide) _
    |true=>
     rw[hv2,if_pos rfl]at h10;rw[if_neg (by decide),key v.1 0 h10];unfold D6;rw[hfb,if_neg (by decide),if_pos rfl,Nat.add_assoc];exact rS s a (sg+ds.length) w _
  ·rw[if_neg (λ h=>hfb h.2)];have hko:∃n er,rk prog aF (.call 149 [vs ((s.drop a).take (sg+ds.length))] [])=some (.t [.d (.i .i64 n),.d (.i .i64 er)],[]):=by
    rw[h10];by_cases h60:60<ds.length
    ·rw[if_pos h60];exact⟨_,_,rfl⟩
    ·rw[if_neg h60];unfold Gm;split
     ·exact⟨_,_,rfl⟩
     ·exact⟨_,_,rfl⟩
   obtain⟨n,er,h⟩:=hko;rw[key n er h];unfold D6;rw[if_pos hfb];exact dbl _ (by omega)
 ·rw[if_neg (λ h=>h0 h.1),decide_eq_true h0];have hfe:=wu (s.drop (a+sg+ds.length));rw[hfa]at hfe;have hcond:(s.drop (a+sg+ds.length)).getD 0 0=46/\aG ((s.drop (a+sg+ds.length)).getD 1 0)=true:=by
   rcases Classical.em ((s.drop (a+sg+ds.length)).getD 0 0=46/\aG ((s.drop (a+sg+ds.length)).getD 1 0)=true)with h|h
   ·exact h
   ·rw[if_neg h]at hfe;exact absurd hfe h0
  rw[if_pos hcond,List.drop_drop]at hfe;have hlt:a+sg+ds.length+1<=s.length:=by
   rcases Nat.lt_or_ge (a+sg+ds.length) s.length with h|h
   ·omega
   ·rw[List.drop_eq_nil_of_le h]at hcond;exact absurd hcond.1 (by decide)
  rw[OC s hs a (a+sg+ds.length) hlt w true (a+sg+ds.length+fa) (by omega)];rw[JP s hs a (a+sg+ds.length+fa) (by omega) (by omega) w false 0 0 (λ h=>by cases h) _ rfl];unfold D6;by_cases hfb:eZ (s.drop (a+sg+ds.length+fa))≠0
  ·rw[if_pos hfb];exact dbl _ (by omega)
  ·rw[if_neg hfb,if_neg (show ¬(false=true) by decide)]
   exact dbl _ (by omega)
theorem Sx{s:mP}{a:Nat}{w:Int}{r:KH}{o o':Option Out}(hw:gR s a w r o)
  (H:∀(T:Tok) (x e w':Int),o=some (.d T.D,[aW s x e w'])->o'=some (.d T.D,[aW s x e w'])):gR s a w r o':=by
 match r,hw with
 | .inr (e,w'),⟨he,x,T,h⟩=>exact⟨he,x,T,H _ _ _ _ h⟩
 | .inl (t,n),h=>exact H _ _ _ _ h
theorem Td(s:mP)(hs:s.length<=2000)(a:Nat)(c:UInt8)(hd:s.drop a=c::s.drop (a+1))(hg:bJ s (a:Int)=some c)(ha:a<s.length)
    (hnd:CH (s.drop (a+fZ (s.drop a)))=false) (w:Int):gR s a w (nQ (s.drop a) a) (rk prog aF (.call 99 [V.p 0 0] [aW s (a:Int) 0 w])):=by
  have hnd':¬((s.drop (a+fZ (s.drop a))).takeWhile aG=[]/\dt (s.drop (a+fZ (s.drop a)))=0):=λ h=>by
    have:=(E9 _).2 h;rw[hnd]at this;cases this
  have hst:=tm s [48,120] a (by omega) (by omega) (by decide);have hl:([48,120]:mP).length=2:=rfl;rw[hl,hd,Df]at hst;have w2:i64.wrap ((a:Int)+2)=((a+2:Nat):Int):=U5;have e43:((c.toNat:Int)==43)=(c==43):=cd c 43;have Dv:((c.toNat:Int)==45)=(c==45):=cd c 45;have hsN:fZ (s.drop a)=if c=43\/c=45 then 1 else 0:=by rw[hd];rfl
  have h27:∀b:Bool,rk prog aF (.call 99 [V.p 0 0] [aW s (a:Int) 0 w])=
        rk prog aF (.at_ 99 1 (fw 27) (sv 242 (nv a [(38,vb b)])) [] [dU,aW s (a:Int) 0 w])->
      (b=true↔(fZ (s.drop a)=0/\(s.drop a).head?=some 48/\((s.drop a).drop 1).head?=some 120/\(((s.drop a).drop 2).takeWhile dV)≠[]))->
      gR s a w (nQ (s.drop a) a) (rk prog aF (.call 99 [V.p 0 0] [aW s (a:Int) 0 w])):=by
    intro b hgo hb;rw[hgo,CL]
    cases b with
    |true=>
      have h:=hb.1 rfl;rw[if_pos h];have hlen:a+2<=s.length:=by
        have h3:=h.2.2.2;rcases Nat.lt_or_ge s.length (a+2)with h|h
        · rw[List.drop_drop,List.drop_eq_nil_of_le (by omega)]at h3;exact absurd rfl h3
        · exact h
      refine Sx (G4 s (by omega) a hlen w) ?_;intro T x e w' h;unfold Tok.D dU at *;unfold aW at *;rw[D4,bF,D1 h (by rfl) (by rfl) (by rfl),aD];rfl
    |false=>
      rw[if_neg (λ h=>by have:=hb.2 h;cases this)]
      have hto:rk prog aF (.at_ 99 1 (fw 27) (sv 242 (nv a [(38,vb false)])) [] [dU,aW s (a:Int) 0 w])=
          rk prog aF (.at_ 99 1 (fw 55) (sv 242 (nv a [(62,vb (decide (fZ (s.drop a)=1)))])) [] [dU,aW s (a:Int) 0 w]):=by
        rw[hsN];unfold dU aW;rw[D4,bo,aR hg,e43];by_cases h43:c=43
        · rw[dz (beq_iff_eq.2 h43),aA,if_pos (Or.inl h43)];rfl
        · rw [cF (beq_eq_false_iff_ne.2 h43), aR hg, aA, Dv]
          by_cases h45:c=45
          · rw[if_pos (Or.inr h45),beq_iff_eq.2 h45];rfl
          · rw[if_neg (by rintro(h|h);exact h43 h;exact h45 h),beq_eq_false_iff_ne.2 h45];rfl
      rw[hto];have hsle:=F3 (s.drop a);rw[List.length_drop]at hsle;refine Vm s hs a (fZ (s.drop a)) ?_ ?_ (by omega) hnd' w
      · rw [hsN]; split
        · exact Or.inr rfl
        · exact Or.inl rfl
      · rw [hsN, hd]
        by_cases h:c=43\/c=45
        · rw [if_pos h]
          rcases h with rfl|rfl
          · exact Or.inr (Or.inl rfl)
          · exact Or.inr (Or.inr rfl)
        · rw[if_neg h];exact Or.inl rfl
  have hd1:(s.drop a).drop 1=s.drop (a+1):=by rw[List.drop_drop]
  have hd2:(s.drop a).drop 2=s.drop (a+2):=by rw[List.drop_drop]
  rw[hd1,hd2]at h27;by_cases h0x:c=48/\(s.drop (a+1)).head?=some 120
  · rw [decide_eq_true h0x] at hst
    have hs0:fZ (s.drop a)=0:=by rw[hsN,if_neg (by rw[h0x.1];decide)]
    have hh0:(s.drop a).head?=some 48:=by rw[hd,h0x.1];rfl
    rcases Nat.lt_or_ge (a+2) s.length with hlt|hge
    · obtain ⟨d, hdd, hgd⟩ := drop_at hlt
      have hx:=Nv d;refine h27 (dV d) ?_ ?_
      · unfold dU aW
        rw[Wu,dH hst,bF,w2,bz,aR hgd,ed hx,aA]
        cases dV d with
        |true=>rw[if_pos rfl,decide_eq_true (Int.natCast_nonneg _)]
        |false=>rw[if_neg (by decide)];rfl
      · rw [hdd, List.takeWhile_cons]
        cases dV d with
        |true=>simp[hs0,hh0,h0x.2]
        |false=>simp
    · refine h27 false ?_ ?_
      · unfold dU aW
        rw[Wu,dH hst,bF,w2,bn,aA]
      · rw[List.drop_eq_nil_of_le hge];simp
  · rw [decide_eq_false h0x] at hst
    refine h27 false ?_ ?_
    · unfold dU aW
      rw[Wu,dH hst,bo,aA]
    · constructor
      · intro h;cases h
      · rintro ⟨-, h1, h2, -⟩
        rw[hd]at h1;exact absurd ⟨Option.some.inj h1,h2⟩ h0x
theorem PC(q:UInt8)(r:mP)(a:Nat):oy q r a=if r.dropWhile (· != q)=[]\/(r.takeWhile (· != q)).contains 10=true then .inr (2,a)else .inl (⟨4,r.takeWhile (· != q),0,0,a⟩,(r.takeWhile (· != q)).length+2):=rfl
def jI(c d:UInt8):Bool:=d != c&&d != 10
theorem yV(c:UInt8)(hc:c≠10):∀q:mP,
  match q.dropWhile (jI c) with
  | []=>q.dropWhile (· != c)=[]
  |d::_=>(d=10->(q.dropWhile (· != c)=[]\/(q.takeWhile (· != c)).contains 10=true))/\
    (d≠10->q.takeWhile (· != c)=q.takeWhile (jI c)/\q.dropWhile (· != c)≠[]/\(q.takeWhile (· != c)).contains 10=false)
 | []=>rfl
 |x::q=>by
  have ih:=yV c hc q;rw[List.dropWhile_cons,List.takeWhile_cons,List.dropWhile_cons,List.takeWhile_cons];by_cases hx:x=c
  ·subst hx;have h1:jI x x=false:=by unfold jI;simp
   have h2:(x != x)=false:=by simp
   rw[h1,h2];simp only[Bool.false_eq_true,if_false];refine⟨λ h=>absurd h hc,λ _=>?_⟩;simp
  ·have h2:(x != c)=true:=bne_iff_ne.2 hx;rw[h2];by_cases h10:x=10
   ·subst h10;have h1:jI c 10=false:=by unfold jI;simp
    rw[h1];simp only[Bool.false_eq_true,if_false,if_true];exact⟨λ _=>Or.inr (by simp),λ h=>absurd rfl h⟩
   ·have h1:jI c x=true:=by unfold jI;rw[h2,bne_iff_ne.2 h10];rfl
    rw[h1];simp only[if_true]
    cases hq:q.dropWhile (jI c) with
    |nil=>rw[hq]at ih;exact ih
    |cons d q'=>
     rw[hq]at ih;simp only at ih⊢;refine⟨λ h=>?_,λ h=>?_⟩
     ·rcases ih.1 h with h' | h'
      ·exact Or.inl h'
      ·right;rw[List.contains_cons,h',Bool.or_true]
     ·obtain⟨i1,i2,i3⟩:=ih.2 h;refine⟨by rw[i1],i2,?_⟩;rw[List.contains_cons,i3,Bool.or_false];exact beq_eq_false_iff_ne.2 (Ne.symm h10)
theorem vT(s:mP)(hs:s.length<=10000)(a:Nat)(c:UInt8)(w:Int):∀(m k:Nat),k+m=s.length->
    rk prog aF (.at_ 46 1 (fw 622399)
      (sv 194 (nv a [(4,V.d (D.i .u8 (c.toNat:Int))),(6,vi (k:Int))])) [] [dU,aW s (a:Int) 0 w])=
    rk prog aF (.at_ 46 1 (fw 6389567)
      (sv 194 (nv a [(4,V.d (D.i .u8 (c.toNat:Int))),(6,vi ((k+((s.drop k).takeWhile (jI c)).length:Nat):Int)),(152,vb false)])) [] [dU,aW s (a:Int) 0 w])
  |0,k,h=>by
    unfold dU aW;rw[sr,bn,aA,List.drop_eq_nil_of_le (by omega)];rfl
  |m+1,k,h=>by
    obtain⟨d,hd,hg⟩:=drop_at (show k<s.length by omega);have ih:=vT s hs a c w m (k+1) (by omega);have w1:=Wv k;have ec:((d.toNat:Int) != (c.toNat:Int))=(d != c):=by rw[bne,bne,cd]
    have e10:((d.toNat:Int) != 10)=(d != 10):=by rw[bne,bne,show ((d.toNat:Int)==10)=(d==10)from cd d 10]
    have go:rk prog aF (.at_ 46 1 (fw 622399)
          (sv 194 (nv a [(4,V.d (D.i .u8 (c.toNat:Int))),(6,vi (k:Int))])) [] [dU,aW s (a:Int) 0 w])=
        rk prog aF (.at_ 46 1 (fw 6389567)
          (sv 194 (nv a [(4,V.d (D.i .u8 (c.toNat:Int))),(6,vi (k:Int)),(152,vb (jI c d))])) [] [dU,aW s (a:Int) 0 w]):=by
      unfold jI dU aW;rw[sr,bz,aR hg,ec]
      cases hdc:(d != c) with
      |true=>rw[bF,aR hg,aA,e10];rfl
      |false=>rw[bo,aA];rfl
    rw[go,hd,List.takeWhile_cons]
    cases hp:jI c d with
    |false=>rw[if_neg (by decide)];rfl
    |true=>
      rw[if_pos rfl,List.length_cons,show k+(((s.drop (k+1)).takeWhile (jI c)).length+1)=k+1+((s.drop (k+1)).takeWhile (jI c)).length by omega,<-ih];unfold dU aW;rw[mf,bF,w1,aA]
theorem Uj(s:mP)(hs:s.length<=10000)(a:Nat)(c:UInt8)(ha:a<s.length)(hc:c=34\/c=39)(w:Int):
  gR s a w (oy c (s.drop (a+1)) a) (rk prog aF (.at_ 46 1 (fw 65343)
   (sv 194 (nv a [(4,V.d (D.i .u8 (c.toNat:Int))),(118,vb true)])) [] [dU,aW s (a:Int) 0 w])):=by
 have hc10:c≠10:=by rcases hc with rfl|rfl<;>decide
 have w1:=Wv a;have hL:=vT s hs a c w (s.length-(a+1)) (a+1) (by omega);have hsp:=yV c hc10 (s.drop (a+1));have hself:=jg (s.drop (a+1)) (jI c);have hle:=gB (s.drop (a+1)) (jI c);have hdl:(s.drop (a+1)).length=s.length-(a+1):=List.length_drop ..;have hsum:((s.drop (a+1)).takeWhile (jI c)).length+((s.drop (a+1)).dropWhile (jI c)).length=(s.drop (a+1)).length:=by
  have:=congrArg List.length (List.takeWhile_append_dropWhile (p:=jI c) (l:=s.drop (a+1)))
  rwa[List.length_append]at this
 have hat:(s.drop (a+1+((s.drop (a+1)).takeWhile (jI c)).length))=(s.drop (a+1)).dropWhile (jI c):=by
  rw[<-List.drop_drop];have h3:=List.takeWhile_append_dropWhile (p:=jI c) (l:=s.drop (a+1))
  calc (s.drop (a+1)).drop ((s.drop (a+1)).takeWhile (jI c)).length
    = ((s.drop (a+1)).takeWhile (jI c)++(s.drop (a+1)).dropWhile (jI c)).drop ((s.drop (a+1)).takeWhile (jI c)).length:=by rw[h3]
   _=_:=by rw[List.drop_left]
 have go:rk prog aF (.at_ 46 1 (fw 65343)
   (sv 194 (nv a [(4,V.d (D.i .u8 (c.toNat:Int))),(118,vb true)])) [] [dU,aW s (a:Int) 0 w])=
   rk prog aF (.at_ 46 1 (fw 622399)
   (sv 194 (nv a [(4,V.d (D.i .u8 (c.toNat:Int))),(6,vi ((a+1:Nat):Int))])) [] [dU,aW s (a:Int) 0 w]):=by
  unfold dU aW;rw[vd,bF,w1,aA]
 have hf:=lL s (a:Int) 0 w 2 (a:Int);have bad:∀k:Int,gR s a w (.inr (2,a)) (rk prog aF (.at_ 46 1 (fw 1802047)
   (sv 194 (nv a [(6,vi k),(170,vb true)])) [] [dU,aW s (a:Int) 0 w])):=by
  intro k;refine⟨by decide,(a:Int),⟨0,[],0,0,0⟩,?_⟩;unfold dU;unfold aW at *;rw[qv,bF,cr hf (by rfl) (by rfl),aD];rfl
 rw[go,hL,PC];generalize hu:(s.drop (a+1)).takeWhile (jI c)=u at *
 cases hdw:(s.drop (a+1)).dropWhile (jI c) with
 |nil=>
  rw[hdw]at hsp hsum;rw[if_pos (Or.inl hsp)];have hend:a+1+u.length=s.length:=by rw[List.length_nil]at hsum;omega
  have to1:rk prog aF (.at_ 46 1 (fw 6389567)
    (sv 194 (nv a [(4,V.d (D.i .u8 (c.toNat:Int))),(6,vi ((a+1+u.length:Nat):Int)),(152,vb false)])) [] [dU,aW s (a:Int) 0 w])=
    rk prog aF (.at_ 46 1 (fw 1802047)
    (sv 194 (nv a [(6,vi ((a+1+u.length:Nat):Int)),(170,vb true)])) [] [dU,aW s (a:Int) 0 w]):=by
   unfold dU aW;rw[mf,bo,bK,aA]
  rw[to1];exact bad _
 |cons d rest=>
  rw[hdw]at hsp hat;rw[hdw,List.length_cons]at hsum;simp only at hsp;have hlt:a+1+u.length<s.length:=by omega
  have hgd:bJ s ((a+1+u.length:Nat):Int)=some d:=by rw[bQ,<-List.head?_drop,hat];rfl
  have e10:((d.toNat:Int)==10)=(d==10):=cd d 10;have to1:rk prog aF (.at_ 46 1 (fw 6389567)
    (sv 194 (nv a [(4,V.d (D.i .u8 (c.toNat:Int))),(6,vi ((a+1+u.length:Nat):Int)),(152,vb false)])) [] [dU,aW s (a:Int) 0 w])=
    rk prog aF (.at_ 46 1 (fw 1802047)
    (sv 194 (nv a [(6,vi ((a+1+u.length:Nat):Int)),(170,vb (d==10))])) [] [dU,aW s (a:Int) 0 w]):=by
   unfold dU aW;rw[mf,bo,bu,aR hgd,aA,e10]
  rw[to1];by_cases h10:d=10
  ·rw[if_pos (hsp.1 h10),beq_iff_eq.2 h10];exact bad _
  ·obtain⟨i1,i2,i3⟩:=hsp.2 h10;rw[if_neg (by rintro(h|h);exact i2 h;rw[i3]at h;cases h),i1,beq_eq_false_iff_ne.2 h10];have w3:i64.wrap (((a+1+u.length:Nat):Int)+1)=((a+(u.length+2):Nat):Int):=U5;have htk:List.take ((((a+1+u.length:Nat):Int)).toNat-(((a+1:Nat):Int)).toNat) (List.drop (((a+1:Nat):Int)).toNat s)=u:=by rw[Int.toNat_natCast,Int.toNat_natCast,Nat.add_sub_cancel_left,<-hself]
   show _=_;unfold dU aW;rw[qv,bo,w1,aJ,aJ,htk,w3,aD];rfl
theorem vO(s:mP)(hs:s.length<=10000)(a:Nat)(c:UInt8)(hd:s.drop a=c::s.drop (a+1))(ha:a<s.length)(w:Int):∀(m i:Nat),i+m=13->
  gR s a w (if (eB.drop i).contains c=true then .inl (⟨5,[c],0,0,a⟩,1)else .inr (2,a))
   (rk prog aF (.at_ 46 1 (fw 393023) (sv 194 (nv a [(4,V.d (D.i .u8 (c.toNat:Int))),(7,vi (i:Int))])) [] [dU,aW s (a:Int) 0 w]))
 |0,i,h=>by
  have hf:=lL s (a:Int) 0 w 2 (a:Int);have e:i=13:=by omega
  subst e;rw[if_neg (show ¬((eB.drop 13).contains c=true) by simp[eB])];refine⟨by decide,(a:Int),⟨0,[],0,0,0⟩,?_⟩;unfold dU;unfold aW at *;rw[nH,bn (by decide),cr hf (by rfl) (by rfl),aD];rfl
 |m+1,i,h=>by
  have hi:i<eB.length:=by show i<13;omega
  obtain⟨x,hdx,hgx⟩:=drop_at hi;have hgx:bJ [123,125,40,41,91,93,60,62,44,59,58,61,42] (i:Int)=some x:=hgx;have ih:=vO s hs a c hd ha w m (i+1) (by omega);have w1:=Wv i;have w2:=Wv a;have ex:((x.toNat:Int)==(c.toNat:Int))=(x==c):=cd x c;rw[hdx,List.contains_cons];by_cases hxc:x=c
  ·have htk:List.take ((((a+1:Nat):Int)).toNat-((a:Nat):Int).toNat) (List.drop ((a:Nat):Int).toNat s)=[c]:=by rw[Int.toNat_natCast,Int.toNat_natCast,Nat.add_sub_cancel_left,hd];rfl
   rw[hxc,beq_self_eq_true,Bool.true_or,if_pos rfl];show _=_;unfold dU aW;rw[nH,bz,aR hgx,ex,dz (beq_iff_eq.2 hxc),w2,aJ,aJ,htk,aD];rfl
  ·rw[beq_eq_false_iff_ne.2 (Ne.symm hxc),Bool.false_or];have go:rk prog aF (.at_ 46 1 (fw 393023) (sv 194 (nv a [(4,V.d (D.i .u8 (c.toNat:Int))),(7,vi (i:Int))])) [] [dU,aW s (a:Int) 0 w])=
     rk prog aF (.at_ 46 1 (fw 393023) (sv 194 (nv a [(4,V.d (D.i .u8 (c.toNat:Int))),(7,vi ((i+1:Nat):Int))])) [] [dU,aW s (a:Int) 0 w]):=by
    unfold dU aW;rw[nH,bz,aR hgx,ex,cF (beq_eq_false_iff_ne.2 hxc),w1,aA]
   rw[go];exact ih
theorem Ut(s:mP)(hs:s.length<=2000)(a:Nat)(ha:a<s.length)(w:Int):gR s a w (fg (s.drop a) a) (rk prog aF (.call 46 [V.p 0 0] [aW s (a:Int) 0 w])):=by
 obtain⟨c,hd,hg⟩:=drop_at ha;have w1:=Wv a;have w2:i64.wrap ((a:Int)+2)=((a+2:Nat):Int):=U5;have e46c:((c.toNat:Int)==46)=(c==46):=cd c 46;have e43:((c.toNat:Int)==43)=(c==43):=cd c 43;have Dv:((c.toNat:Int)==45)=(c==45):=cd c 45;have e34:((c.toNat:Int)==34)=(c==34):=cd c 34;have e39:((c.toNat:Int)==39)=(c==39):=cd c 39;have hh:∀{r:KH} {k:Nat} {o':Option Out},gR s a w r (rk prog aF (.call k [V.p 0 0] [aW s (a:Int) 0 w]))->
   (∀(T:Tok) (x e w':Int),rk prog aF (.call k [V.p 0 0] [aW s (a:Int) 0 w])=some (.d T.D,[aW s x e w'])->o'=some (.d T.D,[aW s x e w']))->gR s a w r o':=λ h H=>Sx h H
 have hto:rk prog aF (.call 46 [V.p 0 0] [aW s (a:Int) 0 w])=
   rk prog aF (.at_ 46 1 (fw 127) (sv 194 (nv a [(4,V.d (D.i .u8 (c.toNat:Int))),(5,V.d (D.i .u8 ((((s.drop (a+1)).getD 0 0).toNat:Nat):Int)))])) [] [dU,aW s (a:Int) 0 w]):=by
  rcases Nat.lt_or_ge (a+1) s.length with hlt|hge
  ·obtain⟨d,hdd,hgd⟩:=drop_at hlt;rw[hdd,List.getD_cons_zero];unfold dU aW;rw[sq,bu,aR hg,w1,bz,aR hgd,aA]
  ·rw[List.drop_eq_nil_of_le hge];unfold dU aW;rw[sq,bu,aR hg,w1,bn,aA];rfl
 generalize hn:(s.drop (a+1)).getD 0 0=n at hto;have en46:((n.toNat:Int)==46)=(n==46):=cd n 46;have hf:=lL s (a:Int) 0 w 2 (a:Int);have hr1:(s.drop a).getD 1 0=n:=by rw[hd,List.getD_cons_succ];exact hn
 have hr2:(s.drop (a+1)).getD 1 0=(s.drop (a+2)).getD 0 0:=by rw[List.getD_eq_getElem?_getD,List.getD_eq_getElem?_getD,List.getElem?_drop,List.getElem?_drop]
 have hw:fg (s.drop a) a=fg (c::s.drop (a+1)) a:=by rw[hd]
 rw[hw];unfold fg;simp only;rw[hto];have hl:=Cd c;have hdg:=oO c;have hdn:=oO n
 cases hlt:jK c with
 |true=>
  rw[if_pos rfl,<-hd];refine hh (QD s (by omega) a (by omega) w) ?_;intro T x e w' h;rw[hlt]at hl;unfold Tok.D dU at *;unfold aW at *;rw[Ar,dH hl,bF,D1 h (by rfl) (by rfl) (by rfl),aD];rfl
 |false=>
  rw[if_neg (show ¬(false=true) by decide)];rw[hlt]at hl;have h72:rk prog aF (.at_ 46 1 (fw 127) (sv 194 (nv a [(4,V.d (D.i .u8 (c.toNat:Int))),(5,V.d (D.i .u8 ((n.toNat:Nat):Int)))])) [] [dU,aW s (a:Int) 0 w])=
    rk prog aF (.at_ 46 1 (fw 3903) (sv 194 (nv a [(4,V.d (D.i .u8 (c.toNat:Int))),(5,V.d (D.i .u8 ((n.toNat:Nat):Int))),(72,vb (aG c||(c==46&&aG n)))])) [] [dU,aW s (a:Int) 0 w]):=by
   unfold dU aW;rw[Ar,dH hl,bo,dH hdg]
   cases hdc:aG c with
   |true=>rw[bF,aA];rfl
   |false=>
    rw[bo,e46c]
    cases h46:(c==46) with
    |true=>rw[bF,dH hdn,aA];rfl
    |false=>rw[bo,aA];rfl
  rw[h72];have numOk:CH (s.drop (a+fZ (s.drop a)))=false->(aG c=true\/c=43\/c=45\/c=46)->gR s a w (nQ (c::s.drop (a+1)) a) (rk prog aF (.call 99 [V.p 0 0] [aW s (a:Int) 0 w])):=by intro h _;rw[<-hd];exact Td s hs a c hd hg ha h w
  have hsN:fZ (s.drop a)=if c=43\/c=45 then 1 else 0:=by rw[hd];rfl
  cases hA:(aG c||(c==46&&aG n)) with
  |true=>
   have hcond:aG c=true\/c=43\/c=45\/c=46:=by
    rw[Bool.or_eq_true,Bool.and_eq_true]at hA;rcases hA with h|⟨h,-⟩
    ·exact Or.inl h
    ·exact Or.inr (Or.inr (Or.inr (by simpa using h)))
   have hns:¬(c=43\/c=45):=by rintro(rfl|rfl)<;>exact absurd hA (by simp[aG])
   have hnd:CH (s.drop (a+fZ (s.drop a)))=false:=by
    rw[hsN,if_neg hns,Nat.add_zero];unfold CH;rw[hr1,hd,List.getD_cons_zero]
    cases h1:aG c with
    |true=>rfl
    |false=>rw[h1,Bool.false_or]at hA;rw[hA];rfl
   rw[if_pos hcond];refine hh (numOk hnd hcond) ?_;intro T x e w' h;unfold Tok.D dU at *;unfold aW at *;rw[xq,bF,D1 h (by rfl) (by rfl) (by rfl),aD];rfl
  |false=>
   have hndig:aG c=false:=by rw[Bool.or_eq_false_iff]at hA;exact hA.1
   have hdot:(c==46&&aG n)=false:=by rw[Bool.or_eq_false_iff]at hA;exact hA.2
   have h83:rk prog aF (.at_ 46 1 (fw 3903) (sv 194 (nv a [(4,V.d (D.i .u8 (c.toNat:Int))),(5,V.d (D.i .u8 ((n.toNat:Nat):Int))),(72,vb false)])) [] [dU,aW s (a:Int) 0 w])=
     rk prog aF (.at_ 46 1 (fw 16191) (sv 194 (nv a [(4,V.d (D.i .u8 (c.toNat:Int))),(5,V.d (D.i .u8 ((n.toNat:Nat):Int))),(83,vb (c==43||c==45))])) [] [dU,aW s (a:Int) 0 w]):=by
    unfold dU aW;rw[xq,bo,e43]
    cases h43:(c==43) with
    |true=>rw[bF,aA];rfl
    |false=>rw[bo,aA,Dv];rfl
   rw[h83];have numBad:CH (s.drop (a+fZ (s.drop a)))=true->c≠48->nQ (c::s.drop (a+1)) a = .inr (2,a):=by intro h h48;have h2:=(E9 _).1 h;rw[<-List.drop_drop]at h2;rw[<-hd,CL,if_neg (by rintro⟨-,h,-⟩;rw[hd]at h;exact h48 (Option.some.inj h))];unfold Fe;simp only;rw[if_pos h2]
   have h48:c≠48:=λ e=>by rw[e]at hndig;exact absurd hndig (by decide)
   cases hS:(c==43||c==45) with
   |true=>
    have hsc:c=43\/c=45:=by simpa using hS
    have hcond:aG c=true\/c=43\/c=45\/c=46:=by rcases hsc with h|h;exact Or.inr (Or.inl h);exact Or.inr (Or.inr (Or.inl h))
    rw[if_pos hcond];have hsN1:fZ (s.drop a)=1:=by rw[hsN,if_pos hsc]
    have go:rk prog aF (.at_ 46 1 (fw 16191) (sv 194 (nv a [(4,V.d (D.i .u8 (c.toNat:Int))),(5,V.d (D.i .u8 ((n.toNat:Nat):Int))),(83,vb true)])) [] [dU,aW s (a:Int) 0 w])=
      rk prog aF (.at_ 46 1 (fw 57151) (sv 194 (nv a [(115,vb (!CH (s.drop (a+1))))])) [] [dU,aW s (a:Int) 0 w]):=by
     unfold CH;rw[hn,hr2];unfold dU aW;rw[u7,bF,dH hdn]
     cases h1:aG n with
     |true=>rw[bF,aA];rfl
     |false=>
      rw[bo,en46]
      cases h46:(n==46) with
      |false=>rw[bo,aA];rfl
      |true=>
       rw[bF,w2];rcases Nat.lt_or_ge (a+2) s.length with hlt|hge
       ·obtain⟨d,hdd,hgd⟩:=drop_at hlt;rw[bz,aR hgd,dH (oO d),aA,hdd,List.getD_cons_zero];cases aG d<;>rfl
       ·rw[bn,aA,List.drop_eq_nil_of_le hge];rfl
    rw[go]
    cases hnb:CH (s.drop (a+1)) with
    |false=>
     refine hh (numOk (by rw[hsN1];exact hnb) hcond) ?_;intro T x e w' h;unfold Tok.D dU at *;unfold aW at *;rw[u9,Bool.not_false,bF,D1 h (by rfl) (by rfl) (by rfl),aD];rfl
    |true=>
     rw[numBad (by rw[hsN1];exact hnb) h48];refine⟨by decide,(a:Int),⟨0,[],0,0,0⟩,?_⟩;unfold dU;unfold aW at *;rw[u9,Bool.not_true,bo,cr hf (by rfl) (by rfl),aD];rfl
   |false=>
    have hns:¬(c=43\/c=45):=by
     intro h;have:(c==43||c==45)=true:=by simpa using h
     rw[hS]at this;cases this
    have h118:rk prog aF (.at_ 46 1 (fw 16191) (sv 194 (nv a [(4,V.d (D.i .u8 (c.toNat:Int))),(5,V.d (D.i .u8 ((n.toNat:Nat):Int))),(83,vb false)])) [] [dU,aW s (a:Int) 0 w])=
      rk prog aF (.at_ 46 1 (fw 65343) (sv 194 (nv a [(4,V.d (D.i .u8 (c.toNat:Int))),(118,vb (c==34||c==39))])) [] [dU,aW s (a:Int) 0 w]):=by
     unfold dU aW;rw[u7,bo,e34]
     cases h34:(c==34) with
     |true=>rw[bF,aA];rfl
     |false=>rw[bo,aA,e39];rfl
    rw[h118];have hsign:∀bq:Bool,bq=(c==34||c==39)->bq=false->
      rk prog aF (.at_ 46 1 (fw 65343) (sv 194 (nv a [(4,V.d (D.i .u8 (c.toNat:Int))),(118,vb bq)])) [] [dU,aW s (a:Int) 0 w])=
      rk prog aF (.at_ 46 1 (fw 393023) (sv 194 (nv a [(4,V.d (D.i .u8 (c.toNat:Int))),(7,vi ((0:Nat):Int))])) [] [dU,aW s (a:Int) 0 w]):=by
     intro bq _ h;rw[h];unfold dU aW;rw[vd,bo,aA];rfl
    have hsl:=vO s (by omega) a c hd ha w 13 0 rfl;rw[List.drop_zero]at hsl;by_cases h46:c=46
    ·-- a dot that begins nothing
     have hcond:aG c=true\/c=43\/c=45\/c=46:=Or.inr (Or.inr (Or.inr h46));have hnd:CH (s.drop (a+fZ (s.drop a)))=true:=by rw[hsN,if_neg hns,Nat.add_zero];unfold CH;rw[hr1,hd,List.getD_cons_zero,hndig,hdot];rfl
     have hq:(c==34||c==39)=false:=by rw[h46];rfl
     rw[if_pos hcond,numBad hnd h48,hsign _ rfl hq];rw[if_neg (show ¬(eB.contains c=true) by rw[h46];decide)]at hsl;exact hsl
    ·have hcond:¬(aG c=true\/c=43\/c=45\/c=46):=by
      rintro(h|h|h|h)
      ·rw[hndig]at h;cases h
      ·exact hns (Or.inl h)
      ·exact hns (Or.inr h)
      ·exact h46 h
     rw[if_neg hcond];by_cases hq:c=34\/c=39
     ·have hqb:(c==34||c==39)=true:=by simpa using hq
      rw[if_pos hq,hqb];exact Uj s (by omega) a c ha hq w
     ·have hqb:(c==34||c==39)=false:=by
       cases e:(c==34||c==39) with
       |false=>rfl
       |true=>exact absurd (by simpa using e) hq
      rw[if_neg hq,hsign _ rfl hqb];exact hsl
section
variable {f : Task → Option Out}
theorem Ix{t:Task}{k j:IntKind}{b:Bool}{l:List D}{n m:Int}{e e' e'':V}{K:Bool->List D->Int->Int->Tr}(h:f t=some (.t [.d (.l b l),.d (.i k n),.d (.i j m)],[])):
  aC f (.call t λ o=>aH o.snd.isEmpty (cL o.fst λ l=>aH (l.length==3) (bm (l.getD 0 e) λ d=>fT d λ x y=>bm (l.getD 1 e') λ d'=>bR k d' λ z=>bm (l.getD 2 e'') λ d''=>bR j d'' λ w=>K x y z w)))=aC f (K b l n m):=by
 rw[cp h];show aC f (bR k (.i k n) λ x=>bR j (.i j m) λ y=>K b l x y)=_;rw[bH,if_pos rfl,bH,if_pos rfl]
end
theorem N8(s:mP)(hs:s.length<=2000):(lexB s).1.length<=100000:=by
 rcases ru s with⟨l',hg,e⟩|⟨e,w,he,-,-⟩
 ·rw[e];obtain⟨h1,h2⟩:=hg;have hbound:∀(k:Nat) (hk:k<l'.length),k<=l'[k].at_:=by
   intro k
   induction k with
   |zero=>intro _;exact Nat.zero_le _
   |succ k ih=>
    intro hk;have h3:=ih (by omega);have h4:=List.pairwise_iff_getElem.1 h2 k (k+1) (by omega) hk (by omega);omega
  show (l'++[_]).length<=_;rw[List.length_append,List.length_singleton];rcases Nat.eq_zero_or_pos l'.length with h0|h0
  ·omega
  ·have h3:=hbound (l'.length-1) (by omega)
   have h4:=(h1 _ (List.getElem_mem (show l'.length-1<l'.length by omega))).2.2;omega
 ·rw[he];exact Nat.zero_le _
abbrev Sf(b:Bool)(L:List Tok)(o:Ob):Task:=Task.at_ 20 0 (fw 47) (xt b (dY L)) [(6,5)] [o]
section
variable {f : Task → Option Out}
theorem GW{a b d:V}{i:Int}{K:Int->Tr}:aC f (ob [a,b,vi i,d][2]? λ v=>bm v λ d=>bR .i64 d λ n=>K n)=aC f (K i):=by rw[aR (a:=vi i) (by rfl),bM,bS]
theorem UZ{a b c:V}{i:Int}{K:Int->Tr}:aC f (ob [a,b,c,vi i][3]? λ v=>bm v λ d=>bR .i64 d λ n=>K n)=aC f (K i):=by rw[aR (a:=vi i) (by rfl),bM,bS]
end
theorem D0(s:mP)(a x:Nat)(b:Bool)(L:List Tok)(hL:L.length<=100000)(T:Tok)(x':Int)
  (h1:rk prog aF (.call 45 [V.p 0 0] [aW s (a:Int) 0 0])=some (.t [],[aW s (x:Int) 0 0]))
  (h2:rk prog aF (.call 46 [V.p 0 0] [aW s (x:Int) 0 0])=some (.d T.D,[aW s x' 0 0])):
  rk prog aF (Sf b L (aW s (a:Int) 0 0))=if T.kind=6 then some (lQ (L++[T],0,0))else rk prog aF (Sf false (L++[T]) (aW s x' 0 0)):=by
 have hsn:=mW L T;have hemp:(L++[T]).isEmpty=false:=by cases L<;>rfl
 unfold lQ Sf;simp only;rw[hemp];unfold Tok.D at h2 hsn;unfold aW at *;rw[q8,cr h1 (by rfl) (by rfl),GW,dN rfl,D1 h2 (by rfl) (by rfl) (by rfl),GW,dN rfl,mV,aN,uJ (by cases b<;>rfl),aJ (by rw[qd];omega)];show aC _ (bR .i64 (D.i .i64 (T.kind:Int)) _)=_;rw[bS];show aC _ (aM ((T.kind:Int)==6) (Tr.ret (V.t [vl (b&&false) (dY L++[D.g [D.i .i64 (T.kind:Int),D.s T.text,D.i .i64 T.n,D.i .u64 (T.d:Int),D.i .i64 (T.at_:Int)]]),vi 0,vi 0],[]))
  (Tr.call (.at_ 20 0 (fw 47) (xt (b&&false) (dY L++[D.g [D.i .i64 (T.kind:Int),D.s T.text,D.i .i64 T.n,D.i .u64 (T.d:Int),D.i .i64 (T.at_:Int)]])) [(6,5)] [Ob.cells (ng s x' 0 0) []]) Tr.ret))=_
 rw[hsn,Bool.and_false];by_cases hk:T.kind=6
 ·rw[if_pos hk,bK,aD];rfl
 ·rw[if_neg hk,bu,aA]
theorem QB(s:mP)(a:Nat)(b:Bool)(L:List Tok)(x e:Int)(w':Nat)(he:e≠0)
  (h1:rk prog aF (.call 45 [V.p 0 0] [aW s (a:Int) 0 0])=some (.t [],[aW s x e (w':Int)])):
  rk prog aF (Sf b L (aW s (a:Int) 0 0))=some (lQ ([],e,w')):=by
 unfold Sf;unfold aW at *;rw[q8,cr h1 (by rfl) (by rfl),GW,ep he,GW,UZ,aD];rfl
theorem QC(s:mP)(a x:Nat)(b:Bool)(L:List Tok)(T:Tok)(x' e:Int)(w':Nat)(he:e≠0)
  (h1:rk prog aF (.call 45 [V.p 0 0] [aW s (a:Int) 0 0])=some (.t [],[aW s (x:Int) 0 0]))
  (h2:rk prog aF (.call 46 [V.p 0 0] [aW s (x:Int) 0 0])=some (.d T.D,[aW s x' e (w':Int)])):
  rk prog aF (Sf b L (aW s (a:Int) 0 0))=some (lQ ([],e,w')):=by
 unfold Sf;unfold Tok.D at h2;unfold aW at *;rw[q8,cr h1 (by rfl) (by rfl),GW,dN rfl,D1 h2 (by rfl) (by rfl) (by rfl),GW,ep he,GW,UZ,aD];rfl
theorem An(s:mP)(hs:s.length<=2000):∀(f a:Nat) (b:Bool) (L:List Tok),s.length-a<f->a<=s.length->L.length<=a->
  rk prog aF (Sf b L (aW s (a:Int) 0 0))=some (lQ (rr f (s.drop a) a L))
 |0,a,b,L,h,_,_=>by omega
 |f+1,a,b,L,h,ha,hL=>by
  have hlen:(s.drop a).length=s.length-a:=List.length_drop ..;have hk:=tf (s.drop a).length (s.drop a) 0;have hsk:=D2 s (by omega) 0 a (s.drop a).length 0 (by omega) (by omega);have h45:rk prog aF (.call 45 [V.p 0 0] [aW s (a:Int) 0 0])=rk prog aF (wk (aW s (a:Int) 0 0)):=by unfold wk aW;rw[Dv,aA]
  unfold rr;rw[Nat.add_zero]at hsk;generalize eV (s.drop a).length (s.drop a) 0=K at *;obtain⟨k,bb⟩:=K;simp only at hk
  cases bb with
  |false=>exact QB s a b L _ 2 (a+k) (by decide) (h45.trans hsk)
  |true=>
   have h1:rk prog aF (.call 45 [V.p 0 0] [aW s (a:Int) 0 0])=some (.t [],[aW s ((a+k:Nat):Int) 0 0]):=h45.trans hsk;simp only;by_cases he:(s.drop a).length<=k
   ·rw[if_pos he];have e1:a+(s.drop a).length=s.length:=by omega
    have e2:a+k=s.length:=by omega
    have h2:rk prog aF (.call 46 [V.p 0 0] [aW s ((a+k:Nat):Int) 0 0])=some (.d (Tok.D ⟨6,[],0,0,s.length⟩),[aW s ((a+k:Nat):Int) 0 0]):=by rw[e2];unfold aW Tok.D;rw[sq,bK rfl,aD];rfl
    rw[e1,D0 s a (a+k) b L (by omega) ⟨6,[],0,0,s.length⟩ _ h1 h2,if_pos rfl]
   ·rw[if_neg he];have hw:=Ut s hs (a+k) (by omega) 0;have hok:=KB (s.drop (a+k)) (a+k);rw[List.drop_drop];generalize fg (s.drop (a+k)) (a+k)=W at *
    match W,hw,hok with
    | .inr (e,w'),⟨hne,x',T,h2⟩,hok=>exact QC s a (a+k) b L T x' e w' hne h1 h2
    | .inl (t,n),h2,hok=>
     have h2:rk prog aF (.call 46 [V.p 0 0] [aW s ((a+k:Nat):Int) 0 0])=some (.d t.D,[aW s ((a+k+n:Nat):Int) 0 0]):=h2;obtain⟨-,i1,i2,i3,-⟩:=hok;rw[List.length_drop]at i2;simp only;rw[D0 s a (a+k) b L (by omega) t _ h1 h2,if_neg i3,List.drop_drop,<-Nat.add_assoc];exact An s hs f (a+k+n) false (L++[t]) (by omega) (by omega) (by rw[List.length_append,List.length_singleton];omega)
theorem Tb(s:mP)(hs:s.length<=2000):rk prog aF (.call 20 [vs s] [])=some (lQ (lexB s)):=by unfold lexB;rw[XJ,bn,aA,UM];exact An s hs (s.length+1) 0 true [] (by omega) (by omega) (by simp)
theorem Yx(s:mP):EQ bA (.call 28 [vs s] []) (cV (.call 57 [vs s,vs [34]] []) λ a=>aB a λ b=>aM b (aH (decide (1+s.length<4611686018427387904)) (aH (decide (([39]++s).length+1<4611686018427387904)) (.ret (vs ([39]++s++[39]),[])))) (aH (decide (1+s.length<4611686018427387904)) (aH (decide (([34]++s).length+1<4611686018427387904)) (.ret (vs ([34]++s++[34]),[]))))):=bU
theorem Yt(k n u:Int)(s:mP)(b:Bool)(l:List D):EQ bA (.call 23 [.d (.g [.i .i64 k,.i .i64 n,.i .u64 u,.s s,.l b l])] []) (aM (k==1) (cV (.call 49 [vi n,vi 10] []) λ a=>aS a λ c => .ret (vs c,[])) (aM (k==2) (cV (.call 50 [vu u] []) λ e=>aS e λ f => .ret (vs f,[])) (aM (k==3) (cV (.call 28 [vs s] []) λ h=>aS h λ j => .ret (vs j,[])) (aM (k==4) (.ret (vs s,[])) (aM (k==5) (cV (.call 52 [vl b l] []) λ m=>aL m λ o p=>cV (.call 51 [vl o p,vs [44,32]] []) λ q=>aS q λ r=>aH (decide (1+r.length<4611686018427387904)) (aH (decide (([91]++r).length+1<4611686018427387904)) (.ret (vs ([91]++r++[93]),[])))) (cV (.call 52 [vl b l] []) λ t=>aL t λ v w => .call (.at_ 23 0 (fw 175) (sv 63 [(3,vl true []),(4,vl v w),(5,vi 0)]) [(3,1)] []) .ret)))))):=bU
theorem Yz(b:Bool)(l:List D):EQ bA (.call 52 [vl b l] []) (.call (.at_ 52 0 (fw 43) (sv 19 [(3,vl true []),(6,vl b l),(7,vi (l.length:Int)),(8,vi 0)]) [(3,1)] []) .ret):=bU
theorem Ys(k n u:Int)(s:mP)(b:Bool)(l:List D):EQ bA (.call 22 [.d (.g [.i .i64 k,.i .i64 n,.i .u64 u,.s s,.l b l])] []) (aM (k==1) (cV (.call 47 [vi n] []) λ a=>aS a λ c => .ret (vs c,[])) (aM (k==2) (cV (.call 48 [vu u] []) λ e=>aS e λ f => .ret (vs f,[])) (aM (k==3) (.call (.at_ 22 0 (fw 10741) (Gh 0) [] [.cells (pd k n u s b l) []]) .ret) (aM (k==4) (.ret (vs s,[])) (aM (k==5) (.call (.at_ 22 0 (fw 352245) (AM [91] 0) [] [.cells (pd k n u s b l) []]) .ret) (.call (.at_ 22 0 (fw 87) (AU [123] 0) [] [.cells (pd k n u s b l) []]) .ret)))))):=bU
theorem YD(h:Bool)(id r:Int)(t nm:mP)(hi:Bool)(k n u:Int)(s:mP)(b:Bool)(l:List D):EQ bA (.call 59 [.d (.g [.b h,.i .i64 id,.i .i64 r,.s t,.s nm,.b hi,.i .i64 k,.i .i64 n,.i .u64 u,.s s,.l b l])] []) (aM h (cV (.call 49 [vi id,vi 10] []) λ a=>aS a λ c=>aH (decide (c.length+2<4611686018427387904)) (.call (.at_ 59 0 (fw 15) (qT (c++[58,32])) [] [.cells (pT h id r t nm hi k n u s b l) []]) .ret)) (.call (.at_ 59 0 (fw 15) (qT []) [] [.cells (pT h id r t nm hi k n u s b l) []]) .ret)):=bU
theorem YE(h:Bool)(id r:Int)(t nm:mP)(hi:Bool)(k n u:Int)(s:mP)(b:Bool)(l:List D):EQ bA (.call 61 [.d (.g [.b h,.i .i64 id,.i .i64 r,.s t,.s nm,.b hi,.i .i64 k,.i .i64 n,.i .u64 u,.s s,.l b l])] []) (aM h (cV (.call 47 [vi id] []) λ a=>aS a λ c=>aH (decide (c.length+2<4611686018427387904)) (.call (.at_ 61 0 (fw 15) (qT (c++[58,32])) [] [.cells (pT h id r t nm hi k n u s b l) []]) .ret)) (.call (.at_ 61 0 (fw 15) (qT []) [] [.cells (pT h id r t nm hi k n u s b l) []]) .ret)):=bU
theorem XC(b:Bool)(l:List D):EQ bA (.call 124 [vl b l] []) (.call (.at_ 124 0 (fw 43) (sv 20 [(3,vl true []),(6,vl b l),(7,vi (l.length:Int)),(8,vi 0)]) [(3,1)] []) .ret):=bU
theorem XD(b:Bool)(l:List D):EQ bA (.call 125 [vl b l] []) (.call (.at_ 125 0 (fw 43) (BF b l [] 0) [] []) .ret):=bU
theorem YF(nm:mP)(ow:Bool)(ret:mP)(ab:Bool)(al:List D)(tb:Bool)(tl:List D):EQ bA (.call 62 [.d (.g [.s nm,.b ow,.s ret,.l ab al,.l tb tl])] []) (aM ow (.call (.at_ 62 0 (fw 15) (Hg [32,32,111,110,101,119,97,121,32]) [] [.cells (tF nm ow ret ab al tb tl) []]) .ret) (.call (.at_ 62 0 (fw 15) (Hg [32,32]) [] [.cells (tF nm ow ret ab al tb tl) []]) .ret)):=bU
theorem Yy(kd:Int)(nm ty:mP)(ck cn cu:Int)(cs:mP)(cb:Bool)(cl:List D)(fb:Bool)(fl:List D)(mb:Bool)(ml:List D)(ex:mP)(tb:Bool)(tl:List D):EQ bA (.call 31 [.d (.g [.i .i64 kd,.s nm,.s ty,.i .i64 ck,.i .i64 cn,.i .u64 cu,.s cs,.l cb cl,.l fb fl,.l mb ml,.s ex,.l tb tl])] []) (eC [.s [],.s [116,121,112,101,100,101,102,32],.s [101,110,117,109,32],.s [99,111,110,115,116,32],.s [115,116,114,117,99,116,32],.s [117,110,105,111,110,32],.s [101,120,99,101,112,116,105,111,110,32],.s [115,101,114,118,105,99,101,32]] kd 1 0 λ a=>eF a λ b=>aM (kd==1) (aH (decide (b.length+ty.length<4611686018427387904)) (aH (decide ((b++ty).length+1<4611686018427387904)) (aH (decide ((b++ty++[32]).length+nm.length<4611686018427387904)) (aH (decide ((b++ty++[32]++nm).length+1<4611686018427387904)) (.ret (vs (b++ty++[32]++nm++[10]),[])))))) (aM (kd==3) (aH (decide (b.length+ty.length<4611686018427387904)) (aH (decide ((b++ty).length+1<4611686018427387904)) (aH (decide ((b++ty++[32]).length+nm.length<4611686018427387904)) (aH (decide ((b++ty++[32]++nm).length+3<4611686018427387904)) (cV (.call 22 [.d (.g [.i .i64 ck,.i .i64 cn,.i .u64 cu,.s cs,.l cb cl])] []) λ c=>aS c λ e=>aH (decide ((b++ty++[32]++nm++[32,61,32]).length+e.length<4611686018427387904)) (aH (decide ((b++ty++[32]++nm++[32,61,32]++e).length+1<4611686018427387904)) (.ret (vs (b++ty++[32]++nm++[32,61,32]++e++[10]),[])))))))) (aH (decide (b.length+nm.length<4611686018427387904)) (aM (!ex==[]) (aH (decide ((b++nm).length+9<4611686018427387904)) (aH (decide ((b++nm++[32,101,120,116,101,110,100,115,32]).length+ex.length<4611686018427387904)) (.call (.at_ 31 0 (fw 127) (Gj (b++nm++[32,101,120,116,101,110,100,115,32]++ex)) [] [.cells (nY kd nm ty ck cn cu cs cb cl fb fl mb ml ex tb tl) []]) .ret))) (.call (.at_ 31 0 (fw 127) (Gj (b++nm)) [] [.cells (nY kd nm ty ck cn cu cs cb cl fb fl mb ml ex tb tl) []]) .ret))))):=bU
theorem Yr(ib:Bool)(il:List D)(sb:Bool)(sl:List D)(db:Bool)(dl:List D):EQ bA (.call 13 [.d (.g [.l ib il,.l sb sl,.l db dl])] []) (.call (.at_ 13 0 (fw 43) (FX [] 0) [] [.cells (pB ib il sb sl db dl) []]) .ret):=bU
theorem uS(b0:Bool)(l1:List D)(b2:Bool)(l3:List D)(n4:Int):EQ bA (.at_ 23 0 (fw 175) (sv 63 [(3,vl b0 l1),(4,vl b2 l3),(5,vi n4)]) [(3,1)] []) (aM (decide (i64.wrap (n4+1)<(l3.length:Int))) (eC l3 n4 1 0 λ a=>eF a λ b=>aH (decide (b.length+2<4611686018427387904)) (eC l3 (i64.wrap (n4+1)) 1 0 λ c=>eF c λ e=>aH (decide ((b++[58,32]).length+e.length<4611686018427387904)) (aH (bw 1 l1) (aH (b0||true) (aH (decide (l1.length+1<=4294967296)) (.call (.at_ 23 0 (fw 175) (sv 63 [(3,vl (b0&&false) (l1++[.s (b++[58,32]++e)])),(4,vl b2 l3),(5,vi (i64.wrap (n4+2)))]) [(3,1)] []) .ret)))))) (cV (.call 51 [vl b0 l1,vs [44,32]] []) λ f=>aS f λ g=>aH (decide (1+g.length<4611686018427387904)) (aH (decide (([123]++g).length+1<4611686018427387904)) (.ret (vs ([123]++g++[125]),[]))))):=bU
theorem GF(b0:Bool)(l1:List D)(b2:Bool)(l3:List D)(n4 n5:Int):EQ bA (.at_ 52 0 (fw 43) (sv 19 [(3,vl b0 l1),(6,vl b2 l3),(7,vi n4),(8,vi n5)]) [(3,1)] []) (aM (decide (n5<n4)) (eL l3 n5 5 λ a=>aH ([.d (gD 5 0 a 0),.d (gD 5 0 a 1),.d (gD 5 0 a 2),.d (gD 5 0 a 3),.d (gD 5 0 a 4)].all V.one) (cV (.call 23 [.d (.g [gD 5 0 a 0,gD 5 0 a 1,gD 5 0 a 2,gD 5 0 a 3,gD 5 0 a 4])] []) λ b=>aS b λ c=>aH (bw 1 l1) (aH (b0||true) (aH (decide (l1.length+1<=4294967296)) (.call (.at_ 52 0 (fw 43) (sv 19 [(3,vl (b0&&false) (l1++[.s c])),(6,vl b2 l3),(7,vi n4),(8,vi (i64.wrap (n5+1)))]) [(3,1)] []) .ret))))) (.ret (vl b0 l1,[]))):=bU
theorem pM(n0 n1 n2 n3:Int)(l4:mP)(b5:Bool)(l6:List D):EQ bA (.at_ 22 0 (fw 10741) (Gh n0) [] [.cells (pd n1 n2 n3 l4 b5 l6) []]) (aM (decide (n0<(l4.length:Int))) (ob (bJ l4 n0) λ a=>aM ((a.toNat:Int)==34) (aH (decide (1+l4.length<4611686018427387904)) (aH (decide (([39]++l4).length+1<4611686018427387904)) (.ret (vs ([39]++l4++[39]),[])))) (.call (.at_ 22 0 (fw 10741) (Gh (i64.wrap (n0+1))) [] [.cells (pd n1 n2 n3 l4 b5 l6) []]) .ret)) (aH (decide (1+l4.length<4611686018427387904)) (aH (decide (([34]++l4).length+1<4611686018427387904)) (.ret (vs ([34]++l4++[34]),[]))))):=bU
theorem tI(l0:mP)(n1 n2 n3 n4:Int)(l5:mP)(b6:Bool)(l7:List D):EQ bA (.at_ 22 0 (fw 352245) (AM l0 n1) [] [.cells (pd n2 n3 n4 l5 b6 l7) []]) (aM (decide (n1<(l7.length:Int))) (aM (decide (n1>0)) (aH (decide (l0.length+2<4611686018427387904)) (.call (.at_ 22 0 (fw 13197301) (AM (l0++[44,32]) n1) [] [.cells (pd n2 n3 n4 l5 b6 l7) []]) .ret)) (.call (.at_ 22 0 (fw 13197301) (AM l0 n1) [] [.cells (pd n2 n3 n4 l5 b6 l7) []]) .ret)) (aH (decide (l0.length+1<4611686018427387904)) (.ret (vs (l0++[93]),[])))):=bU
theorem zm(l0:mP)(n1 n2 n3 n4:Int)(l5:mP)(b6:Bool)(l7:List D):EQ bA (.at_ 22 0 (fw 87) (AU l0 n1) [] [.cells (pd n2 n3 n4 l5 b6 l7) []]) (aM (decide (i64.wrap (n1+1)<(l7.length:Int))) (aM (decide (n1>0)) (aH (decide (l0.length+2<4611686018427387904)) (.call (.at_ 22 0 (fw 3223) (AU (l0++[44,32]) n1) [] [.cells (pd n2 n3 n4 l5 b6 l7) []]) .ret)) (.call (.at_ 22 0 (fw 3223) (AU l0 n1) [] [.cells (pd n2 n3 n4 l5 b6 l7) []]) .ret)) (aH (decide (l0.length+1<4611686018427387904)) (.ret (vs (l0++[125]),[])))):=bU
theorem P6(l0:mP)(b1:Bool)(n2 n3:Int)(l4 l5:mP)(b6:Bool)(n7 n8 n9:Int)(l10:mP)(b11:Bool)(l12:List D):EQ bA (.at_ 59 0 (fw 15) (qT l0) [] [.cells (pT b1 n2 n3 l4 l5 b6 n7 n8 n9 l10 b11 l12) []]) (aM (n3==1) (aH (decide (l0.length+9<4611686018427387904)) (.call (.at_ 59 0 (fw 31) (qT (l0++[114,101,113,117,105,114,101,100,32])) [] [.cells (pT b1 n2 n3 l4 l5 b6 n7 n8 n9 l10 b11 l12) []]) .ret)) (aM (n3==2) (aH (decide (l0.length+9<4611686018427387904)) (.call (.at_ 59 0 (fw 31) (qT (l0++[111,112,116,105,111,110,97,108,32])) [] [.cells (pT b1 n2 n3 l4 l5 b6 n7 n8 n9 l10 b11 l12) []]) .ret)) (.call (.at_ 59 0 (fw 31) (qT l0) [] [.cells (pT b1 n2 n3 l4 l5 b6 n7 n8 n9 l10 b11 l12) []]) .ret))):=bU
theorem P9(l0:mP)(b1:Bool)(n2 n3:Int)(l4 l5:mP)(b6:Bool)(n7 n8 n9:Int)(l10:mP)(b11:Bool)(l12:List D):EQ bA (.at_ 61 0 (fw 15) (qT l0) [] [.cells (pT b1 n2 n3 l4 l5 b6 n7 n8 n9 l10 b11 l12) []]) (aM (n3==1) (aH (decide (l0.length+9<4611686018427387904)) (.call (.at_ 61 0 (fw 31) (qT (l0++[114,101,113,117,105,114,101,100,32])) [] [.cells (pT b1 n2 n3 l4 l5 b6 n7 n8 n9 l10 b11 l12) []]) .ret)) (aM (n3==2) (aH (decide (l0.length+9<4611686018427387904)) (.call (.at_ 61 0 (fw 31) (qT (l0++[111,112,116,105,111,110,97,108,32])) [] [.cells (pT b1 n2 n3 l4 l5 b6 n7 n8 n9 l10 b11 l12) []]) .ret)) (.call (.at_ 61 0 (fw 31) (qT l0) [] [.cells (pT b1 n2 n3 l4 l5 b6 n7 n8 n9 l10 b11 l12) []]) .ret))):=bU
theorem BX(b0:Bool)(l1:List D)(b2:Bool)(l3:List D)(n4 n5:Int):EQ bA (.at_ 124 0 (fw 43) (sv 20 [(3,vl b0 l1),(6,vl b2 l3),(7,vi n4),(8,vi n5)]) [(3,1)] []) (aM (decide (n5<n4)) (eL l3 n5 11 λ a=>aH ([.d (gD 11 0 a 0),.d (gD 11 0 a 1),.d (gD 11 0 a 2),.d (gD 11 0 a 3),.d (gD 11 0 a 4),.d (gD 11 0 a 5),.d (gD 11 0 a 6),.d (gD 11 0 a 7),.d (gD 11 0 a 8),.d (gD 11 0 a 9),.d (gD 11 0 a 10)].all V.one) (cV (.call 59 [.d (.g [gD 11 0 a 0,gD 11 0 a 1,gD 11 0 a 2,gD 11 0 a 3,gD 11 0 a 4,gD 11 0 a 5,gD 11 0 a 6,gD 11 0 a 7,gD 11 0 a 8,gD 11 0 a 9,gD 11 0 a 10])] []) λ b=>aS b λ c=>aH (bw 1 l1) (aH (b0||true) (aH (decide (l1.length+1<=4294967296)) (.call (.at_ 124 0 (fw 43) (sv 20 [(3,vl (b0&&false) (l1++[.s c])),(6,vl b2 l3),(7,vi n4),(8,vi (i64.wrap (n5+1)))]) [(3,1)] []) .ret))))) (cV (.call 51 [vl b0 l1,vs [44,32]] []) λ e=>aS e λ f => .ret (vs f,[]))):=bU
theorem BY(b0:Bool)(l1:List D)(l2:mP)(n3:Int):EQ bA (.at_ 125 0 (fw 43) (BF b0 l1 l2 n3) [] []) (aM (decide (n3<(l1.length:Int))) (aM (decide (n3>0)) (aH (decide (l2.length+2<4611686018427387904)) (.call (.at_ 125 0 (fw 1611) (BF b0 l1 (l2++[44,32]) n3) [] []) .ret)) (.call (.at_ 125 0 (fw 1611) (BF b0 l1 l2 n3) [] []) .ret)) (.ret (vs l2,[]))):=bU
theorem Qb(l0 l1:mP)(b2:Bool)(l3:mP)(b4:Bool)(l5:List D)(b6:Bool)(l7:List D):EQ bA (.at_ 62 0 (fw 15) (Hg l0) [] [.cells (tF l1 b2 l3 b4 l5 b6 l7) []]) (aH (decide (l0.length+l3.length<4611686018427387904)) (aH (decide ((l0++l3).length+1<4611686018427387904)) (aH (decide ((l0++l3++[32]).length+l1.length<4611686018427387904)) (aH (decide ((l0++l3++[32]++l1).length+1<4611686018427387904)) (cV (.call 125 [vl b4 l5] []) λ o0=>aS o0 λ l2=>aH (decide ((l0++l3++[32]++l1++[40]).length+l2.length<4611686018427387904)) (aH (decide ((l0++l3++[32]++l1++[40]++l2).length+1<4611686018427387904)) (aM (decide ((l7.length:Int)>0)) (aH (decide ((l0++l3++[32]++l1++[40]++l2++[41]).length+9<4611686018427387904)) (cV (.call 125 [vl b6 l7] []) λ o3=>aS o3 λ l5=>aH (decide ((l0++l3++[32]++l1++[40]++l2++[41]++[32,116,104,114,111,119,115,32,40]).length+l5.length<4611686018427387904)) (aH (decide ((l0++l3++[32]++l1++[40]++l2++[41]++[32,116,104,114,111,119,115,32,40]++l5).length+1<4611686018427387904)) (.call (.at_ 62 0 (fw 63) (sv 35 [(3,vs (l0++l3++[32]++l1++[40]++l2++[41]++[32,116,104,114,111,119,115,32,40]++l5++[41]))]) [] []) .ret)))) (.call (.at_ 62 0 (fw 63) (sv 35 [(3,vs (l0++l3++[32]++l1++[40]++l2++[41]))]) [] []) .ret)))))))):=bU
theorem MS(l0:mP)(n1:Int)(l2 l3:mP)(n4 n5 n6:Int)(l7:mP)(b8:Bool)(l9:List D)(b10:Bool)(l11:List D)(b12:Bool)(l13:List D)(l14:mP)(b15:Bool)(l16:List D):EQ bA (.at_ 31 0 (fw 127) (Gj l0) [] [.cells (nY n1 l2 l3 n4 n5 n6 l7 b8 l9 b10 l11 b12 l13 l14 b15 l16) []]) (aH (decide (l0.length+3<4611686018427387904)) (.call (.at_ 31 0 (fw 1407) (Bh (l0++[32,123,10]) 0) [] [.cells (nY n1 l2 l3 n4 n5 n6 l7 b8 l9 b10 l11 b12 l13 l14 b15 l16) []]) .ret)):=bU
theorem GA(l0:mP)(n1:Int)(b2:Bool)(l3:List D)(b4:Bool)(l5:List D)(b6:Bool)(l7:List D):EQ bA (.at_ 13 0 (fw 43) (FX l0 n1) [] [.cells (pB b2 l3 b4 l5 b6 l7) []]) (aM (decide (n1<(l3.length:Int))) (aH (decide (l0.length+9<4611686018427387904)) (eC l3 n1 1 0 λ a=>eF a λ b=>aH (decide ((l0++[105,110,99,108,117,100,101,32,34]).length+b.length<4611686018427387904)) (aH (decide ((l0++[105,110,99,108,117,100,101,32,34]++b).length+2<4611686018427387904)) (.call (.at_ 13 0 (fw 43) (FX (l0++[105,110,99,108,117,100,101,32,34]++b++[34,10]) (i64.wrap (n1+1))) [] [.cells (pB b2 l3 b4 l5 b6 l7) []]) .ret)))) (.call (.at_ 13 0 (fw 87) (FY l0 0) [] [.cells (pB b2 l3 b4 l5 b6 l7) []]) .ret)):=bU
theorem zl(l0:mP)(n1 n2 n3 n4:Int)(l5:mP)(b6:Bool)(l7:List D):EQ bA (.at_ 22 0 (fw 13197301) (AM l0 n1) [] [.cells (pd n2 n3 n4 l5 b6 l7) []]) (eL l7 n1 5 λ a=>cV (.call 22 [.d (.g [gD 5 0 a 0,gD 5 0 a 1,gD 5 0 a 2,gD 5 0 a 3,gD 5 0 a 4])] []) λ b=>aS b λ c=>aH (decide (l0.length+c.length<4611686018427387904)) (.call (.at_ 22 0 (fw 352245) (AM (l0++c) (i64.wrap (n1+1))) [] [.cells (pd n2 n3 n4 l5 b6 l7) []]) .ret)):=bU
theorem I3(l0:mP)(n1 n2 n3 n4:Int)(l5:mP)(b6:Bool)(l7:List D):EQ bA (.at_ 22 0 (fw 3223) (AU l0 n1) [] [.cells (pd n2 n3 n4 l5 b6 l7) []]) (eL l7 n1 5 λ a=>cV (.call 22 [.d (.g [gD 5 0 a 0,gD 5 0 a 1,gD 5 0 a 2,gD 5 0 a 3,gD 5 0 a 4])] []) λ b=>aS b λ c=>aH (decide (l0.length+c.length<4611686018427387904)) (aH (decide ((l0++c).length+2<4611686018427387904)) (eL l7 (i64.wrap (n1+1)) 5 λ e=>cV (.call 22 [.d (.g [gD 5 0 e 0,gD 5 0 e 1,gD 5 0 e 2,gD 5 0 e 3,gD 5 0 e 4])] []) λ f=>aS f λ h=>aH (decide ((l0++c++[58,32]).length+h.length<4611686018427387904)) (.call (.at_ 22 0 (fw 87) (AU (l0++c++[58,32]++h) (i64.wrap (n1+2))) [] [.cells (pd n2 n3 n4 l5 b6 l7) []]) .ret)))):=bU
theorem P7(l0:mP)(b1:Bool)(n2 n3:Int)(l4 l5:mP)(b6:Bool)(n7 n8 n9:Int)(l10:mP)(b11:Bool)(l12:List D):EQ bA (.at_ 59 0 (fw 31) (qT l0) [] [.cells (pT b1 n2 n3 l4 l5 b6 n7 n8 n9 l10 b11 l12) []]) (aH (decide (l4.length+1<4611686018427387904)) (aH (decide ((l4++[32]).length+l5.length<4611686018427387904)) (aH (decide (l0.length+(l4++[32]++l5).length<4611686018427387904)) (aM b6 (cV (.call 23 [.d (.g [.i .i64 n7,.i .i64 n8,.i .u64 n9,.s l10,.l b11 l12])] []) λ a=>aS a λ c=>aH (decide (3+c.length<4611686018427387904)) (aH (decide ((l0++(l4++[32]++l5)).length+([32,61,32]++c).length<4611686018427387904)) (.ret (vs (l0++(l4++[32]++l5)++([32,61,32]++c)),[])))) (.ret (vs (l0++(l4++[32]++l5)),[])))))):=bU
theorem Qa(l0:mP)(b1:Bool)(n2 n3:Int)(l4 l5:mP)(b6:Bool)(n7 n8 n9:Int)(l10:mP)(b11:Bool)(l12:List D):EQ bA (.at_ 61 0 (fw 31) (qT l0) [] [.cells (pT b1 n2 n3 l4 l5 b6 n7 n8 n9 l10 b11 l12) []]) (aH (decide (l0.length+l4.length<4611686018427387904)) (aH (decide ((l0++l4).length+1<4611686018427387904)) (aH (decide ((l0++l4++[32]).length+l5.length<4611686018427387904)) (aM b6 (aH (decide ((l0++l4++[32]++l5).length+3<4611686018427387904)) (cV (.call 22 [.d (.g [.i .i64 n7,.i .i64 n8,.i .u64 n9,.s l10,.l b11 l12])] []) λ a=>aS a λ c=>aH (decide ((l0++l4++[32]++l5++[32,61,32]).length+c.length<4611686018427387904)) (.ret (vs (l0++l4++[32]++l5++[32,61,32]++c),[])))) (.ret (vs (l0++l4++[32]++l5),[])))))):=bU
theorem Gz(b0:Bool)(l1:List D)(l2:mP)(n3:Int):EQ bA (.at_ 125 0 (fw 1611) (BF b0 l1 l2 n3) [] []) (eL l1 n3 11 λ a=>cV (.call 61 [.d (.g [gD 11 0 a 0,gD 11 0 a 1,gD 11 0 a 2,gD 11 0 a 3,gD 11 0 a 4,gD 11 0 a 5,gD 11 0 a 6,gD 11 0 a 7,gD 11 0 a 8,gD 11 0 a 9,gD 11 0 a 10])] []) λ b=>aS b λ c=>aH (decide (l2.length+c.length<4611686018427387904)) (.call (.at_ 125 0 (fw 43) (BF b0 l1 (l2++c) (i64.wrap (n3+1))) [] []) .ret)):=bU
theorem GI(l0:mP):EQ bA (.at_ 62 0 (fw 63) (sv 35 [(3,vs l0)]) [] []) (aH (decide (l0.length+2<4611686018427387904)) (.ret (vs (l0++[44,10]),[]))):=bU
theorem zn(l0:mP)(n1 n2:Int)(l3 l4:mP)(n5 n6 n7:Int)(l8:mP)(b9:Bool)(l10:List D)(b11:Bool)(l12:List D)(b13:Bool)(l14:List D)(l15:mP)(b16:Bool)(l17:List D):EQ bA (.at_ 31 0 (fw 1407) (Bh l0 n1) [] [.cells (nY n2 l3 l4 n5 n6 n7 l8 b9 l10 b11 l12 b13 l14 l15 b16 l17) []]) (aM (decide (n1<(l14.length:Int))) (aH (decide (l0.length+2<4611686018427387904)) (eC l14 n1 3 0 λ a=>eF a λ b=>aH (decide ((l0++[32,32]).length+b.length<4611686018427387904)) (eC l14 n1 3 1 λ c=>fN c λ e=>aM e (aH (decide ((l0++[32,32]++b).length+3<4611686018427387904)) (eC l14 n1 3 2 λ f=>bR .i64 f λ g=>cV (.call 47 [vi g] []) λ h=>aS h λ j=>aH (decide ((l0++[32,32]++b++[32,61,32]).length+j.length<4611686018427387904)) (.call (.at_ 31 0 (fw 117119) (Bh (l0++[32,32]++b++[32,61,32]++j) n1) [] [.cells (nY n2 l3 l4 n5 n6 n7 l8 b9 l10 b11 l12 b13 l14 l15 b16 l17) []]) .ret))) (.call (.at_ 31 0 (fw 117119) (Bh (l0++[32,32]++b) n1) [] [.cells (nY n2 l3 l4 n5 n6 n7 l8 b9 l10 b11 l12 b13 l14 l15 b16 l17) []]) .ret)))) (.call (.at_ 31 0 (fw 2815) (Fi l0 0) [] [.cells (nY n2 l3 l4 n5 n6 n7 l8 b9 l10 b11 l12 b13 l14 l15 b16 l17) []]) .ret)):=bU
theorem GB(l0:mP)(n1:Int)(b2:Bool)(l3:List D)(b4:Bool)(l5:List D)(b6:Bool)(l7:List D):EQ bA (.at_ 13 0 (fw 87) (FY l0 n1) [] [.cells (pB b2 l3 b4 l5 b6 l7) []]) (aM (decide (n1<(l5.length:Int))) (aH (decide (l0.length+10<4611686018427387904)) (eC l5 n1 2 0 λ a=>eF a λ b=>aH (decide ((l0++[110,97,109,101,115,112,97,99,101,32]).length+b.length<4611686018427387904)) (aH (decide ((l0++[110,97,109,101,115,112,97,99,101,32]++b).length+1<4611686018427387904)) (eC l5 n1 2 1 λ c=>eF c λ e=>aH (decide ((l0++[110,97,109,101,115,112,97,99,101,32]++b++[32]).length+e.length<4611686018427387904)) (aH (decide ((l0++[110,97,109,101,115,112,97,99,101,32]++b++[32]++e).length+1<4611686018427387904)) (.call (.at_ 13 0 (fw 87) (FY (l0++[110,97,109,101,115,112,97,99,101,32]++b++[32]++e++[10]) (i64.wrap (n1+1))) [] [.cells (pB b2 l3 b4 l5 b6 l7) []]) .ret)))))) (.call (.at_ 13 0 (fw 175) (F4 l0 0) [] [.cells (pB b2 l3 b4 l5 b6 l7) []]) .ret)):=bU
theorem Ds(l0:mP)(n1 n2:Int)(l3 l4:mP)(n5 n6 n7:Int)(l8:mP)(b9:Bool)(l10:List D)(b11:Bool)(l12:List D)(b13:Bool)(l14:List D)(l15:mP)(b16:Bool)(l17:List D):EQ bA (.at_ 31 0 (fw 117119) (Bh l0 n1) [] [.cells (nY n2 l3 l4 n5 n6 n7 l8 b9 l10 b11 l12 b13 l14 l15 b16 l17) []]) (aH (decide (l0.length+2<4611686018427387904)) (.call (.at_ 31 0 (fw 1407) (Bh (l0++[44,10]) (i64.wrap (n1+1))) [] [.cells (nY n2 l3 l4 n5 n6 n7 l8 b9 l10 b11 l12 b13 l14 l15 b16 l17) []]) .ret)):=bU
theorem zo(l0:mP)(n1 n2:Int)(l3 l4:mP)(n5 n6 n7:Int)(l8:mP)(b9:Bool)(l10:List D)(b11:Bool)(l12:List D)(b13:Bool)(l14:List D)(l15:mP)(b16:Bool)(l17:List D):EQ bA (.at_ 31 0 (fw 2815) (Fi l0 n1) [] [.cells (nY n2 l3 l4 n5 n6 n7 l8 b9 l10 b11 l12 b13 l14 l15 b16 l17) []]) (aM (decide (n1<(l12.length:Int))) (aH (decide (l0.length+2<4611686018427387904)) (eL l12 n1 11 λ a=>cV (.call 61 [.d (.g [gD 11 0 a 0,gD 11 0 a 1,gD 11 0 a 2,gD 11 0 a 3,gD 11 0 a 4,gD 11 0 a 5,gD 11 0 a 6,gD 11 0 a 7,gD 11 0 a 8,gD 11 0 a 9,gD 11 0 a 10])] []) λ b=>aS b λ c=>aH (decide ((l0++[32,32]).length+c.length<4611686018427387904)) (aH (decide ((l0++[32,32]++c).length+2<4611686018427387904)) (.call (.at_ 31 0 (fw 2815) (Fi (l0++[32,32]++c++[44,10]) (i64.wrap (n1+1))) [] [.cells (nY n2 l3 l4 n5 n6 n7 l8 b9 l10 b11 l12 b13 l14 l15 b16 l17) []]) .ret)))) (.call (.at_ 31 0 (fw 5631) (Fw l0 0) [] [.cells (nY n2 l3 l4 n5 n6 n7 l8 b9 l10 b11 l12 b13 l14 l15 b16 l17) []]) .ret)):=bU
theorem BZ(l0:mP)(n1:Int)(b2:Bool)(l3:List D)(b4:Bool)(l5:List D)(b6:Bool)(l7:List D):EQ bA (.at_ 13 0 (fw 175) (F4 l0 n1) [] [.cells (pB b2 l3 b4 l5 b6 l7) []]) (aM (decide (n1<(l7.length:Int))) (eL l7 n1 12 λ a=>cV (.call 31 [.d (.g [gD 12 0 a 0,gD 12 0 a 1,gD 12 0 a 2,gD 12 0 a 3,gD 12 0 a 4,gD 12 0 a 5,gD 12 0 a 6,gD 12 0 a 7,gD 12 0 a 8,gD 12 0 a 9,gD 12 0 a 10,gD 12 0 a 11])] []) λ b=>aS b λ c=>aH (decide (l0.length+c.length<4611686018427387904)) (.call (.at_ 13 0 (fw 175) (F4 (l0++c) (i64.wrap (n1+1))) [] [.cells (pB b2 l3 b4 l5 b6 l7) []]) .ret)) (.ret (vs l0,[]))):=bU
theorem zp(l0:mP)(n1 n2:Int)(l3 l4:mP)(n5 n6 n7:Int)(l8:mP)(b9:Bool)(l10:List D)(b11:Bool)(l12:List D)(b13:Bool)(l14:List D)(l15:mP)(b16:Bool)(l17:List D):EQ bA (.at_ 31 0 (fw 5631) (Fw l0 n1) [] [.cells (nY n2 l3 l4 n5 n6 n7 l8 b9 l10 b11 l12 b13 l14 l15 b16 l17) []]) (aM (decide (n1<(l17.length:Int))) (eL l17 n1 5 λ a=>cV (.call 62 [.d (.g [gD 5 0 a 0,gD 5 0 a 1,gD 5 0 a 2,gD 5 0 a 3,gD 5 0 a 4])] []) λ b=>aS b λ c=>aH (decide (l0.length+c.length<4611686018427387904)) (.call (.at_ 31 0 (fw 5631) (Fw (l0++c) (i64.wrap (n1+1))) [] [.cells (nY n2 l3 l4 n5 n6 n7 l8 b9 l10 b11 l12 b13 l14 l15 b16 l17) []]) .ret)) (aH (decide (l0.length+2<4611686018427387904)) (.ret (vs (l0++[125,10]),[])))):=bU
def ia(s:mP):mP:=if s.contains 34=true then [39]++s++[39]else [34]++s++[34]
def cA:List mP->List mP
 |a::b::r=>(a++[58,32]++b)::cA r
 |_=>[]
abbrev cD(k n u:Int)(s:mP)(b:Bool)(l:List D):D := .g [.i .i64 k,.i .i64 n,.i .u64 u,.s s,.l b l]
abbrev fD(h:Bool)(id r:Int)(t nm:mP)(hi:Bool)(k n u:Int)(s:mP)(b:Bool)(l:List D):D := .g [.b h,.i .i64 id,.i .i64 r,.s t,.s nm,.b hi,.i .i64 k,.i .i64 n,.i .u64 u,.s s,.l b l]
abbrev mD(nm:mP)(h:Bool)(n:Int):D := .g [.s nm,.b h,.i .i64 n]
abbrev TN(nm:mP)(ow:Bool)(ret:mP)(ab:Bool)(al:List D)(tb:Bool)(tl:List D):D := .g [.s nm,.b ow,.s ret,.l ab al,.l tb tl]
abbrev dD(kd:Int)(nm ty:mP)(ck cn cu:Int)(cs:mP)(cb:Bool)(cl:List D)(fb:Bool)(fl:List D)(mb:Bool)(ml:List D)(ex:mP)(tb:Bool)(tl:List D):D:=
 .g [.i .i64 kd,.s nm,.s ty,.i .i64 ck,.i .i64 cn,.i .u64 cu,.s cs,.l cb cl,.l fb fl,.l mb ml,.s ex,.l tb tl]
abbrev F8(a b:mP):D := .g [.s a,.s b]
abbrev EJ(ib:Bool)(il:List D)(sb:Bool)(sl:List D)(db:Bool)(dl:List D):D := .g [.l ib il,.l sb sl,.l db dl]
mutual
def eA:D->mP
 | .g [.i _ k,.i _ n,.i _ u,.s s,.l _ l]=>
  if k=1 then cZ n else if k=2 then fY u.toNat else if k=3 then ia s else if k=4 then s
  else if k=5 then [91]++Lib.join (ko l) [44,32]++[93]else [123]++Lib.join (cA (ko l)) [44,32]++[125]
 |_=>[]
def ko:List D->List mP
 | []=>[]
 |x::xs=>eA x::ko xs
end
def yu:D->mP
 | .g [.b h,.i _ id,.i _ r,.s t,.s nm,.b hi,k,n,u,s,l]=>
  (if h=true then cZ id++[58,32]else [])++(if r=1 then [114,101,113,117,105,114,101,100,32]else if r=2 then [111,112,116,105,111,110,97,108,32]else [])
   ++ t++[32]++nm++(if hi=true then [32,61,32]++eA (.g [k,n,u,s,l])else [])
 |_=>[]
def fC(l:List D):mP:=Lib.join (l.map yu) [44,32]
def uB:D->mP
 | .g [.s nm,.b h,.i _ n]=>[32,32]++nm++(if h=true then [32,61,32]++cZ n else [])++[44,10]
 |_=>[]
def wa(x:D):mP:=[32,32]++yu x++[44,10]
def jh:D->mP
 | .g [.s nm,.b ow,.s ret,.l _ al,.l _ tl]=>
  [32,32]++(if ow=true then [111,110,101,119,97,121,32]else [])++ret++[32]++nm++[40]++fC al++[41]
   ++ (if tl=[]then []else [32,116,104,114,111,119,115,32,40]++fC tl++[41])++[44,10]
 |_=>[]
def HH(kd:Int):mP:=
 if kd=4 then [115,116,114,117,99,116,32]else if kd=5 then [117,110,105,111,110,32]else [101,120,99,101,112,116,105,111,110,32]
def oE:D->mP
 | .g [.i _ kd,.s nm,.s ty,ck,cn,cu,cs,cl,.l _ fl,.l _ ml,.s ex,.l _ tl]=>
  if kd=1 then [116,121,112,101,100,101,102,32]++ty++[32]++nm++[10]
  else if kd=3 then [99,111,110,115,116,32]++ty++[32]++nm++[32,61,32]++eA (.g [ck,cn,cu,cs,cl])++[10]
  else if kd=2 then [101,110,117,109,32]++nm++[32,123,10]++(ml.map uB).flatten++[125,10]
  else if kd=7 then [115,101,114,118,105,99,101,32]++nm++(if ex=[]then []else [32,101,120,116,101,110,100,115,32]++ex)++[32,123,10]++(tl.map jh).flatten++[125,10]
  else HH kd++nm++[32,123,10]++(fl.map wa).flatten++[125,10]
 |_=>[]
def CV:D->mP
 | .s s=>[105,110,99,108,117,100,101,32,34]++s++[34,10]
 |_=>[]
def wG:D->mP
 | .g [.s a,.s b]=>[110,97,109,101,115,112,97,99,101,32]++a++[32]++b++[10]
 |_=>[]
def lG:D->mP
 | .g [.l _ il,.l _ sl,.l _ dl]=>(il.map CV).flatten++(sl.map wG).flatten++(dl.map oE).flatten
 |_=>[]
mutual
def T9:D->D->Bool
 | .g [.i _ k,.i _ n,.i _ u,.s s,.l _ l],.g [.i _ k',.i _ n',.i _ u',.s s',.l _ l']=>k==k'&&(n==n'&&(u==u'&&(s==s'&&TQ l l')))
 |_,_=>false
def TQ:List D->List D->Bool
 | [],[]=>true
 |x::xs,y::ys=>T9 x y&&TQ xs ys
 |_,_=>false
end
def Tv(f:D->D->Bool):List D->List D->Bool
 | [],[]=>true
 |x::xs,y::ys=>f x y&&Tv f xs ys
 |_,_=>false
def Ua:D->D->Bool
 | .g [.b h,.i _ id,.i _ r,.s t,.s nm,.b hi,k,n,u,s,l],.g [.b h',.i _ id',.i _ r',.s t',.s nm',.b hi',k',n',u',s',l']=>
  h==h'&&(id==id'&&(r==r'&&(t==t'&&(nm==nm'&&(hi==hi'&&T9 (.g [k,n,u,s,l]) (.g [k',n',u',s',l']))))))
 |_,_=>false
def Uh:D->D->Bool
 | .g [.s nm,.b h,.i _ n],.g [.s nm',.b h',.i _ n']=>nm==nm'&&(h==h'&&n==n')
 |_,_=>false
def Uf:D->D->Bool
 | .g [.s nm,.b ow,.s ret,.l _ al,.l _ tl],.g [.s nm',.b ow',.s ret',.l _ al',.l _ tl']=>nm==nm'&&(ow==ow'&&(ret==ret'&&(Tv Ua al al'&&Tv Ua tl tl')))
 |_,_=>false
def VY:D->D->Bool
 | .g [.i _ kd,.s nm,.s ty,ck,cn,cu,cs,cl,.l _ fl,.l _ ml,.s ex,.l _ tl],.g [.i _ kd',.s nm',.s ty',ck',cn',cu',cs',cl',.l _ fl',.l _ ml',.s ex',.l _ tl']=>
  kd==kd'&&(nm==nm'&&(ty==ty'&&(T9 (.g [ck,cn,cu,cs,cl]) (.g [ck',cn',cu',cs',cl'])&&(Tv Ua fl fl'&&(Tv Uh ml ml'&&(ex==ex'&&Tv Uf tl tl'))))))
 |_,_=>false
def I8(n:Int):Prop:=-9223372036854775808<=n/\n<=9223372036854775807
def UO(n:Int):Prop:=0<=n/\n<18446744073709551616
def Kn:D->Prop
 | .g (.i _ k::_)=>k≠0
 |_=>True
def WC:Nat->D->Prop
 |0,_=>False
 |d+1,x=>∃(k n u:Int) (s:mP) (b:Bool) (l:List D),x=cD k n u s b l/\I8 n/\UO u/\s.length<=2000/\l.length<=100/\(k=0\/(1<=k/\k<=5)\/l.length%2=0)/\∀y∈l,WC d y/\Kn y
abbrev uY:Nat:=20
def WF(x:D):Prop:=∃(h:Bool) (id r:Int) (t nm:mP) (hi:Bool) (k n u:Int) (s:mP) (b:Bool) (l:List D),x=fD h id r t nm hi k n u s b l/\I8 id/\t.length<=100000000/\nm.length<=2000/\(hi=true->k≠0)/\WC uY (cD k n u s b l)
def WM(x:D):Prop:=∃(nm:mP) (h:Bool) (n:Int),x=mD nm h n/\nm.length<=2000/\I8 n
def KG(x:D):Prop:=∃(nm:mP) (ow:Bool) (ret:mP) (ab:Bool) (al:List D) (tb:Bool) (tl:List D),x=TN nm ow ret ab al tb tl/\nm.length<=2000/\ret.length<=100000000/\al.length<=100/\tl.length<=100/\(∀y∈al,WF y)/\∀y∈tl,WF y
def WD(x:D):Prop:=∃(kd:Int) (nm ty:mP) (ck cn cu:Int) (cs:mP) (cb:Bool) (cl:List D) (fb:Bool) (fl:List D) (mb:Bool) (ml:List D) (ex:mP) (tb:Bool) (tl:List D),
 x=dD kd nm ty ck cn cu cs cb cl fb fl mb ml ex tb tl/\1<=kd/\kd<=7/\nm.length<=2000/\ty.length<=100000000/\(kd=3->ck≠0)/\WC uY (cD ck cn cu cs cb cl)/\
  fl.length<=100/\(∀y∈fl,WF y)/\ml.length<=100/\(∀y∈ml,WM y)/\ex.length<=2000/\tl.length<=100/\(∀y∈tl,KG y)/\
  (kd=2->fl=[]/\tl=[]/\ex=[])/\(4<=kd/\kd<=6->ml=[]/\tl=[]/\ex=[])/\(kd=7->fl=[]/\ml=[])
def WI(x:D):Prop:=∃s:mP,x = .s s/\s.length<=2000/\s.contains 34=false
def WS(x:D):Prop:=∃a b:mP,x=F8 a b/\a.length<=2000/\b.length<=2000
def Se(x:D):Prop:=∃(ib:Bool) (il:List D) (sb:Bool) (sl:List D) (db:Bool) (dl:List D),x=EJ ib il sb sl db dl/\il.length<=100/\sl.length<=100/\dl.length<=100/\(∀y∈il,WI y)/\(∀y∈sl,WS y)/\∀y∈dl,WD y
theorem WC.up:∀{d:Nat} {x:D},WC d x->WC (d+1) x
 |0,_,h=>h.elim
 |d+1,x,h=>by
  obtain⟨k,n,u,s,b,l,rfl,h1,h2,h3,h4,h6,h5⟩:=h;exact⟨k,n,u,s,b,l,rfl,h1,h2,h3,h4,h6,λ y hy=>⟨(h5 y hy).1.up,(h5 y hy).2⟩⟩
theorem WC.le{d e:Nat}(h:d<=e){x:D}(hx:WC d x):WC e x:=by
 induction h with
 |refl=>exact hx
 |step _ ih=>exact ih.up
theorem XP(f:Bool)(l:List D)(n m:Int):EQ bA (.call 24 [.p 0 0,vi m] [.cells [vl f l,vi n] []]) (aM (decide (n ≥ (l.length:Int))) (.ret (vi 0,[.cells [vl f l,vi n] []])) (eC l (i64.wrap (i64.wrap (n+1)-1)) 1 0 λ a=>bR .u8 a λ b=>aH (decide (m≠0)) (.ret (vi ((i64.wrap b).tmod m),[.cells [vl f l,vi (i64.wrap (n+1))] []])))):=bU
theorem XB(f:Bool)(l:List D)(n:Int)(s:mP):EQ bA (.call 121 [.p 0 0,vs s] [.cells [vl f l,vi n] []]) (aH (decide (s.length+1<4611686018427387904)) (c1 (.call 24 [.p 0 0,vi 8] [.cells [vl f l,vi n] []]) 2 [] λ a b=>aI a λ c=>eC [.s [105,51,50],.s [115,116,114,105,110,103],.s [98,111,111,108],.s (s++[69]),.s [105,54,52],.s [98,105,110,97,114,121],.s [100,111,117,98,108,101],.s [105,56]] c 1 0 λ e=>eF e λ g => .ret (vs g,[.cells b []]))):=bU
theorem XQ(f:Bool)(l:List D)(n:Int)(s:mP)(d:Int):EQ bA (.call 55 [.p 0 0,vs s,vi d] [.cells [vl f l,vi n] []]) (c1 (.call 24 [.p 0 0,vi 18] [.cells [vl f l,vi n] []]) 2 [] λ a b=>aI a λ c=>aM (decide (d>2)) (.call (.at_ 55 1 (fw 15) (MU s d (c.tmod 12)) [] [.cells b []]) .ret) (.call (.at_ 55 1 (fw 15) (MU s d c) [] [.cells b []]) .ret)):=bU
theorem Sa(f:Bool)(l:List D)(n:Int)(t s:mP):EQ bA (.call 120 [.p 0 0,vs t,vs s] [.cells [vl f l,vi n] []]) (aM (t==[105,51,50]) (.call (.at_ 120 1 (fw 53) (H6 s t (t==[105,51,50])) [] [.cells (pd 0 0 0 [] true []) [],.cells [vl f l,vi n] []]) .ret) (aM (t==[105,54,52]) (.call (.at_ 120 1 (fw 53) (H6 s t (t==[105,54,52])) [] [.cells (pd 0 0 0 [] true []) [],.cells [vl f l,vi n] []]) .ret) (aM (t==[105,49,54]) (.call (.at_ 120 1 (fw 53) (H6 s t (t==[105,49,54])) [] [.cells (pd 0 0 0 [] true []) [],.cells [vl f l,vi n] []]) .ret) (.call (.at_ 120 1 (fw 53) (H6 s t (t==[105,56])) [] [.cells (pd 0 0 0 [] true []) [],.cells [vl f l,vi n] []]) .ret)))):=bU
theorem tK(l0:mP)(n1 n2:Int)(l3:List V):EQ bA (.at_ 55 1 (fw 15) (MU l0 n1 n2) [] [.cells l3 []]) (aH (decide (l0.length+1<4611686018427387904)) (aH (decide (l0.length+1<4611686018427387904)) (aH (decide (l0.length+1<4611686018427387904)) (aH (decide (l0.length+1<4611686018427387904)) (aM (decide (n2<14)) (eC [.s [105,51,50],.s [115,116,114,105,110,103],.s [98,111,111,108],.s [105,56],.s [105,49,54],.s [105,54,52],.s [100,111,117,98,108,101],.s [98,105,110,97,114,121],.s (l0++[69]),.s (l0++[84]),.s [105,51,50],.s [115,116,114,105,110,103],.s (l0++[80]),.s (l0++[85])] n2 1 0 λ a=>eF a λ c => .ret (vs c,[.cells l3 []])) (aM (n2==14) (.call (.at_ 55 1 (fw 975) (BN l0 n1 n2 true) [] [.cells l3 []]) .ret) (.call (.at_ 55 1 (fw 975) (BN l0 n1 n2 (n2==15)) [] [.cells l3 []]) .ret))))))):=bU
theorem qh(l0 l1:mP)(b2:Bool)(n3 n4 n5:Int)(l6:mP)(b7:Bool)(l8:List D)(b9:Bool)(l10:List D)(n11:Int):EQ bA (.at_ 120 1 (fw 53) (H6 l0 l1 b2) [] [.cells (pd n3 n4 n5 l6 b7 l8) [],.cells [vl b9 l10,vi n11] []]) (aM b2 (c1 (.call 24 [.p 0 0,vi 200] [.cells [vl b9 l10,vi n11] []]) 2 [] λ o0 l3=>aI o0 λ n6 => .ret (.d (.g [.i .i64 1,.i .i64 (i64.wrap (n6-72)),.i .u64 0,.s [],.l true []]),[.cells l3 []])) (aM (l1==[100,111,117,98,108,101]) (c1 (.call 24 [.p 0 0,vi 255] [.cells [vl b9 l10,vi n11] []]) 2 [] λ o7 l10=>aI o7 λ n13=>c1 (.call 24 [.p 0 0,vi 255] [.cells l10 []]) l10.length [] λ o14 l17=>aI o14 λ n20 => .ret (.d (.g [.i .i64 2,.i .i64 0,.i .u64 (u64.wrap ((BitVec.ofInt u64.bits (u64.wrap (u64.wrap n13*36028797018963968)) ||| BitVec.ofInt u64.bits (u64.wrap (u64.wrap n20*1099511627776))).toNat:Int)),.s [],.l true []]),[.cells l17 []])) (aM (l1==[115,116,114,105,110,103]) (.call (.at_ 120 1 (fw 1013) (QR l0 l1 (l1==[115,116,114,105,110,103])) [] [.cells (pd n3 n4 n5 l6 b7 l8) [],.cells [vl b9 l10,vi n11] []]) .ret) (.call (.at_ 120 1 (fw 1013) (QR l0 l1 (l1==[98,105,110,97,114,121])) [] [.cells (pd n3 n4 n5 l6 b7 l8) [],.cells [vl b9 l10,vi n11] []]) .ret)))):=bU
theorem uU(l0:mP)(n1 n2:Int)(b3:Bool)(l4:List V):EQ bA (.at_ 55 1 (fw 975) (BN l0 n1 n2 b3) [] [.cells l4 []]) (aM b3 (c1 (.call 55 [.p 0 0,vs l0,vi (i64.wrap (n1+1))] [.cells l4 []]) l4.length [] λ a c=>aS a λ e=>aH (decide (5+e.length<4611686018427387904)) (aH (decide (([108,105,115,116,60]++e).length+1<4611686018427387904)) (.ret (vs ([108,105,115,116,60]++e++[62]),[.cells c []])))) (aM (n2==16) (c1 (.call 121 [.p 0 0,vs l0] [.cells l4 []]) l4.length [] λ f g=>aS f λ h=>aH (decide (4+h.length<4611686018427387904)) (aH (decide (([115,101,116,60]++h).length+1<4611686018427387904)) (.ret (vs ([115,101,116,60]++h++[62]),[.cells g []])))) (c1 (.call 121 [.p 0 0,vs l0] [.cells l4 []]) l4.length [] λ j k=>aS j λ l=>aH (decide (4+l.length<4611686018427387904)) (aH (decide (([109,97,112,60]++l).length+1<4611686018427387904)) (c1 (.call 55 [.p 0 0,vs l0,vi (i64.wrap (n1+1))] [.cells k []]) k.length [] λ m n=>aS m λ o=>aH (decide (([109,97,112,60]++l++[44]).length+o.length<4611686018427387904)) (aH (decide (([109,97,112,60]++l++[44]++o).length+1<4611686018427387904)) (.ret (vs ([109,97,112,60]++l++[44]++o++[62]),[.cells n []])))))))):=bU
theorem ku(l0 l1:mP)(b2:Bool)(n3 n4 n5:Int)(l6:mP)(b7:Bool)(l8:List D)(b9:Bool)(l10:List D)(n11:Int):EQ bA (.at_ 120 1 (fw 1013) (QR l0 l1 b2) [] [.cells (pd n3 n4 n5 l6 b7 l8) [],.cells [vl b9 l10,vi n11] []]) (aM b2 (c1 (.call 24 [.p 0 0,vi 4] [.cells [vl b9 l10,vi n11] []]) 2 [] λ o0 l3=>aI o0 λ n6=>eC [.s [],.s [97],.s [120,32,121],.s [105,116,39,115]] n6 1 0 λ d9=>eF d9 λ l10 => .ret (.d (.g [.i .i64 3,.i .i64 0,.i .u64 0,.s l10,.l true []]),[.cells l3 []])) (aM (l1==[98,111,111,108]) (c1 (.call 24 [.p 0 0,vi 2] [.cells [vl b9 l10,vi n11] []]) 2 [] λ o11 l14=>aI o11 λ n17=>eC [.s [116,114,117,101],.s [102,97,108,115,101]] n17 1 0 λ d20=>eF d20 λ l21 => .ret (.d (.g [.i .i64 4,.i .i64 0,.i .u64 0,.s l21,.l true []]),[.cells l14 []])) (aH (decide (l0.length+1<4611686018427387904)) (aM (l1==l0++[69]) (aH (decide (l0.length+3<4611686018427387904)) (.ret (.d (.g [.i .i64 4,.i .i64 0,.i .u64 0,.s (l0++[69,46,65]),.l true []]),[.cells [vl b9 l10,vi n11] []]))) (aH (decide (l0.length+1<4611686018427387904)) (aM (l1==l0++[84]) (aH (decide (l0.length+1<4611686018427387904)) (.ret (.d (.g [.i .i64 4,.i .i64 0,.i .u64 0,.s (l0++[67]),.l true []]),[.cells [vl b9 l10,vi n11] []]))) (.ret (.d (.g [.i .i64 5,.i .i64 0,.i .u64 0,.s [],.l true []]),[.cells [vl b9 l10,vi n11] []])))))))):=bU
theorem rU{f:Task->Option Out}{l:List D}{i:Nat}{s:mP}(h:l[i]?=some (.s s)){K:mP->Tr}:
  aC f (ob (bJ l (i:Int)) λ d=>aH (d.width==1) (ob l[((i:Int)).toNat]? λ d2=>ob d2.cells[0]? λ d3=>eF d3 K))=aC f (K s):=by
 rw[bQ,aR h];show aC f (aH true (ob l[((i:Int)).toNat]? λ d2=>ob d2.cells[0]? λ d3=>eF d3 K))=_;rw[aN,Int.toNat_natCast,aR h];rfl
theorem Qc{f:Task->Option Out}{l:List D}{i:Nat}{k:IntKind}{v:Int}(h:l[i]?=some (.i k v)){K:Int->Tr}:
  aC f (ob (bJ l (i:Int)) λ d=>aH (d.width==1) (ob l[((i:Int)).toNat]? λ d2=>ob d2.cells[0]? λ d3=>bR k d3 K))=aC f (K v):=by
 rw[bQ,aR h];show aC f (aH true (ob l[((i:Int)).toNat]? λ d2=>ob d2.cells[0]? λ d3=>bR k d3 K))=_;rw[aN,Int.toNat_natCast,aR h];show aC f (bR k (.i k v) K)=_;rw[bH,if_pos rfl]
theorem jX{f:Task->Option Out}{t:Task}{s:mP}{cs:List V}{fl fl':Fl}{m:Nat}{K:List V->mP->Tr}(h:f t=some (.d (.s s),[.cells cs fl]))(hm:cs.length=m)(hf:(fl==fl')=true):
  aC f (.call t λ o=>ee o.snd λ x l2=>dx x λ c g=>aH (c.length==m) (aH (g==fl') (iK l2 (bm o.fst λ d=>eF d λ y=>K c y))))=aC f (K cs s):=by
 rw[cp h];show aC f (aH (cs.length==m) (aH (fl==fl') (K cs s)))=_;rw[hm,beq_self_eq_true,aN,hf,aN]
abbrev iN(zs:List Int)(n:Nat):List V:=[vl false (ints .u8 zs),vi (n:Int)]
abbrev pk(zs:List Int)(n:Nat):Ob:=Ob.cells (iN zs n) []
structure Pk (zs:List Int) (n:Nat):Prop where
 w:∀z∈zs,0<=z/\z<256
 l:zs.length<=1000
 n:n<=zs.length
theorem gO{zs:List Int}{n m:Nat}(h:Pk zs n)(M:Int)(hM:M=(m:Int))(hm:0<m)(hm2:m<1000000):∃k n':Nat,k<m/\Pk zs n'/\
  rk prog bA (.call 24 [V.p 0 0,vi M] [pk zs n])=some (.d (.i .i64 (k:Int)),[pk zs n']):=by
 subst hM;have hlen:(ints .u8 zs).length=zs.length:=iZ _ _;have hl:=h.l;have hn:=h.n;by_cases hc:n<zs.length
 ·have hz:=h.w _ (List.getElem_mem hc);have hget:(ints .u8 zs)[n]?=some (.i .u8 zs[n]):=by simp[ints,List.getElem?_eq_getElem hc]
  refine⟨zs[n].toNat%m,n+1,Nat.mod_lt _ hm,⟨h.w,h.l,hc⟩,?_⟩;have w1:=Wv n;have w2:i64.wrap (((n+1:Nat):Int)-1)=(n:Int):=U5;have w3:i64.wrap zs[n]=zs[n]:=U5;unfold pk iN;rw[XP,bn (by rw[hlen];omega),w1,w2,Qc hget,aJ,w3];show some _=some _;have:(zs[n]).tmod (m:Int)=((zs[n].toNat%m:Nat):Int):=by
   conv=>lhs;rw[<-Int.toNat_of_nonneg hz.1]
   rfl
  rw[this]
 ·refine⟨0,n,hm,h,?_⟩;unfold pk iN;rw[XP,bz (by rw[hlen];omega)];rfl
theorem Sp{zs:List Int}{n:Nat}(h:Pk zs n)(s:mP)(hs:s.length<=100):∃(t:mP) (n':Nat),t.length<=s.length+6/\Pk zs n'/\
  rk prog bA (.call 121 [V.p 0 0,vs s] [pk zs n])=some (.d (.s t),[pk zs n']):=by
 obtain⟨k,n',hk,h',hr⟩:=gO h (m:=8) 8 rfl (by omega) (by omega);have hx:∃t:mP,([D.s [105,51,50],D.s [115,116,114,105,110,103],D.s [98,111,111,108],D.s (s++[69]),D.s [105,54,52],D.s [98,105,110,97,114,121],D.s [100,111,117,98,108,101],D.s [105,56]]:List D)[k]?=some (.s t)/\t.length<=s.length+6:=by
  rcases k with _|_|_|_|_|_|_|_|k
  all_goals first
   |exact⟨_,rfl,by simp⟩
   |omega
 obtain⟨t,ht,hl⟩:=hx;refine⟨t,n',hl,h',?_⟩;rw[XB,aJ,di (m:=2) (fl':=[]) hr rfl rfl,rU ht];rfl
def Jb(d B:Nat):Prop:=∀(zs:List Int) (n:Nat) (s:mP),Pk zs n->s.length<=100->∃(t:mP) (n':Nat),t.length<=B/\Pk zs n'/\
 rk prog bA (.call 55 [V.p 0 0,vs s,vi (d:Int)] [pk zs n])=some (.d (.s t),[pk zs n'])
theorem Gw{k:Nat}(hk:k<14)(s:mP)(hs:s.length<=100)(d:Int)(cs:List V):∃t:mP,t.length<=106/\
    rk prog bA (.at_ 55 1 (fw 15) (MU s d (k:Int)) [] [Ob.cells cs []])=some (.d (.s t),[Ob.cells cs []]):=by
  have hx:∃t:mP,([D.s [105,51,50],D.s [115,116,114,105,110,103],D.s [98,111,111,108],D.s [105,56],D.s [105,49,54],D.s [105,54,52],D.s [100,111,117,98,108,101],
                D.s [98,105,110,97,114,121],D.s (s++[69]),D.s (s++[84]),D.s [105,51,50],D.s [115,116,114,105,110,103],D.s (s++[80]),D.s (s++[85])]:List D)[k]?=some (.s t)/\t.length<=106:=by
    rcases k with _|_|_|_|_|_|_|_|_|_|_|_|_|_|k
    all_goals first
      |(refine⟨_,rfl,?_⟩;simp;done)
      |(refine⟨_,rfl,?_⟩;simp;omega)
      |omega
  obtain⟨t,ht,hl⟩:=hx;refine⟨t,hl,?_⟩;rw[tK,aJ,aJ,aJ,aJ,bz,rU ht];rfl
theorem VD:Jb 3 106:=by intro zs n s h hs;obtain⟨k,n',hk,h',hr⟩:=gO h (m:=18) 18 rfl (by omega) (by omega);obtain⟨t,ht,hl⟩:=Gw (k:=k%12) (by omega) s hs 3 (iN zs n');refine⟨t,n',ht,h',?_⟩;have e:((k:Int)).tmod 12=((k%12:Nat):Int):=rfl;rw[XQ,di (m:=2) (fl':=[]) hr rfl rfl,bz (by decide),e];exact aK hl
theorem IN{d B:Nat}(hd:d<=2)(hB:B<=1000)(hi:Jb (d+1) B):Jb d (B+112):=by
 intro zs n s h hs;obtain⟨k,n',hk,h',hr⟩:=gO h (m:=18) 18 rfl (by omega) (by omega);have w:=Wv d;have key:∃(t:mP) (n2:Nat),t.length<=B+112/\Pk zs n2/\rk prog bA (.at_ 55 1 (fw 15) (MU s (d:Int) (k:Int)) [] [Ob.cells (iN zs n') []])=some (.d (.s t),[pk zs n2]):=by
  by_cases hk14:k<14
  ·obtain⟨t,ht,hl⟩:=Gw hk14 s hs d (iN zs n');by_cases hB106:B+112<106
   ·omega
   ·exact⟨t,n',by omega,h',hl⟩
  ·-- a list
   have hlist:∃(t:mP) (n2:Nat),t.length<=B+112/\Pk zs n2/\∀k2:Int,rk prog bA (.at_ 55 1 (fw 975) (BN s (d:Int) k2 true) [] [Ob.cells (iN zs n') []])=some (.d (.s t),[pk zs n2]):=by obtain⟨t,n2,ht,h2,hr2⟩:=hi zs n' s h' hs;refine⟨[108,105,115,116,60]++t++[62],n2,by simp;omega,h2,λ k2=>?_⟩;rw[uU,bF,w,jX (m:=(iN zs n').length) (fl':=[]) hr2 rfl rfl,aJ,aJ (by simp;omega)];rfl
   have hset:k=16->∃(t:mP) (n2:Nat),t.length<=B+112/\Pk zs n2/\rk prog bA (.at_ 55 1 (fw 975) (BN s (d:Int) (k:Int) false) [] [Ob.cells (iN zs n') []])=some (.d (.s t),[pk zs n2]):=by intro hk16;obtain⟨t,n2,ht,h2,hr2⟩:=Sp h' s hs;refine⟨[115,101,116,60]++t++[62],n2,by simp;omega,h2,?_⟩;rw[uU,bo,bK,jX (m:=(iN zs n').length) (fl':=[]) hr2 rfl rfl,aJ,aJ (by simp;omega)];rfl
   have hmap:k≠16->∃(t:mP) (n2:Nat),t.length<=B+112/\Pk zs n2/\rk prog bA (.at_ 55 1 (fw 975) (BN s (d:Int) (k:Int) false) [] [Ob.cells (iN zs n') []])=some (.d (.s t),[pk zs n2]):=by
    intro hk16;obtain⟨t,n2,ht,h2,hr2⟩:=Sp h' s hs;obtain⟨u,n3,hu,h3,hr3⟩:=hi zs n2 s h2 hs;refine⟨[109,97,112,60]++t++[44]++u++[62],n3,by simp;omega,h3,?_⟩
    rw[uU,bo,bu,jX (m:=(iN zs n').length) (fl':=[]) hr2 rfl rfl,aJ,aJ (by simp;omega),w,
     jX (m:=(iN zs n2).length) (fl':=[]) hr3 rfl rfl,aJ (by simp;omega),aJ (by simp;omega)]
    rfl
   by_cases h14:k=14
   ·obtain⟨t,n2,ht,h2,hr2⟩:=hlist;refine⟨t,n2,ht,h2,?_⟩;rw[tK,aJ,aJ,aJ,aJ,bn,bK];exact aK (hr2 _)
   ·by_cases h15:k=15
    ·obtain⟨t,n2,ht,h2,hr2⟩:=hlist;refine⟨t,n2,ht,h2,?_⟩;have e:((k:Int)==15)=true:=by rw[h15];rfl
     rw[tK,aJ,aJ,aJ,aJ,bn,bu,e];exact aK (hr2 _)
    ·have e:((k:Int)==15)=false:=beq_eq_false_iff_ne.2 (by omega)
     have hx:∃(t:mP) (n2:Nat),t.length<=B+112/\Pk zs n2/\rk prog bA (.at_ 55 1 (fw 975) (BN s (d:Int) (k:Int) false) [] [Ob.cells (iN zs n') []])=some (.d (.s t),[pk zs n2]):=by
      by_cases h16:k=16
      ·exact hset h16
      ·exact hmap h16
     obtain⟨t,n2,ht,h2,hr2⟩:=hx;refine⟨t,n2,ht,h2,?_⟩;rw[tK,aJ,aJ,aJ,aJ,bn,bu,e];exact aK hr2
 obtain⟨t,n2,ht,h2,hr2⟩:=key;refine⟨t,n2,ht,h2,?_⟩;rw[XQ,di (m:=2) (fl':=[]) hr rfl rfl,bn];exact aK hr2
theorem BS:Jb 0 442:=IN (by omega) (by omega) (IN (by omega) (by omega) (IN (by omega) (by omega) VD))
def B1(d:D):Prop:=∃(k n u:Int) (s:mP),d = .g [.i .i64 k,.i .i64 n,.i .u64 u,.s s,.l true []]/\1<=k/\k<=5/\-1000<=n/\n<=1000/\0<=u/\u<18446744073709551616/\s.length<=103
theorem kE{k n u:Int}{s:mP}(h1:1<=k/\k<=5)(h2:-1000<=n/\n<=1000)(h3:0<=u/\u<18446744073709551616)(h4:s.length<=103):B1 (.g [.i .i64 k,.i .i64 n,.i .u64 u,.s s,.l true []]):=
 ⟨k,n,u,s,rfl,h1.1,h1.2,h2.1,h2.2,h3.1,h3.2,h4⟩
theorem MK(n:Int):u64.wrap n=n%18446744073709551616:=by
 have e:((2:Int)^u64.bits)=18446744073709551616:=by decide
 simp[IntKind.wrap,IntKind.signed,e]
theorem MJ(n:Int):0<=u64.wrap n/\u64.wrap n<18446744073709551616:=by rw[MK];omega
theorem P4{zs:List Int}{n:Nat}(h:Pk zs n)(s t:mP)(hs:s.length<=100)(b:Bool)(hb:b=false->t≠[100,111,117,98,108,101])(n3 n4 n5:Int)(l6:mP)(b7:Bool)(l8:List D):
  ∃(d:D) (n':Nat),B1 d/\Pk zs n'/\rk prog bA (.at_ 120 1 (fw 1013) (QR s t b) []
   [Ob.cells (pd n3 n4 n5 l6 b7 l8) [],pk zs n])=some (.d d,[pk zs n']):=by
 cases b with
 |true=>
  obtain⟨k,n',hk,h',hr⟩:=gO h (m:=4) 4 rfl (by omega) (by omega);have hx:∃u:mP,([D.s [],D.s [97],D.s [120,32,121],D.s [105,116,39,115]]:List D)[k]?=some (.s u)/\u.length<=103:=by
   rcases k with _|_|_|_|k
   all_goals first
    |(refine⟨_,rfl,?_⟩;simp;done)
    |omega
  obtain⟨u,hu,hl⟩:=hx;refine⟨_,n',kE (k:=3) (n:=0) (u:=0) (by omega) (by omega) (by omega) hl,h',?_⟩;rw[ku,bF,di (m:=2) (fl':=[]) hr rfl rfl,rU hu];rfl
 |false=>
  by_cases hbool:t=[98,111,111,108]
  ·obtain⟨k,n',hk,h',hr⟩:=gO h (m:=2) 2 rfl (by omega) (by omega)
   have hx:∃u:mP,([D.s [116,114,117,101],D.s [102,97,108,115,101]]:List D)[k]?=some (.s u)/\u.length<=103:=by
    rcases k with _|_|k
    all_goals first
     |(refine⟨_,rfl,?_⟩;simp;done)
     |omega
   obtain⟨u,hu,hl⟩:=hx;refine⟨_,n',kE (k:=4) (n:=0) (u:=0) (by omega) (by omega) (by omega) hl,h',?_⟩;rw[ku,bo,dz (by rw[hbool];rfl),di (m:=2) (fl':=[]) hr rfl rfl,rU hu];rfl
  ·by_cases hE:t=s++[69]
   ·refine⟨_,n,kE (k:=4) (n:=0) (u:=0) (s:=s++[69,46,65]) (by omega) (by omega) (by omega) (by simp;omega),h,?_⟩
    rw[ku,bo,cF (beq_eq_false_iff_ne.2 hbool),aJ,dz (beq_iff_eq.2 hE),aJ];rfl
   ·by_cases hT:t=s++[84]
    ·refine⟨_,n,kE (k:=4) (n:=0) (u:=0) (s:=s++[67]) (by omega) (by omega) (by omega) (by simp;omega),h,?_⟩
     rw[ku,bo,cF (beq_eq_false_iff_ne.2 hbool),aJ,cF (beq_eq_false_iff_ne.2 hE),aJ,dz (beq_iff_eq.2 hT),aJ];rfl
    ·refine⟨_,n,kE (k:=5) (n:=0) (u:=0) (s:=[]) (by omega) (by omega) (by omega) (by simp),h,?_⟩
     rw[ku,bo,cF (beq_eq_false_iff_ne.2 hbool),aJ,cF (beq_eq_false_iff_ne.2 hE),aJ,cF (beq_eq_false_iff_ne.2 hT)];rfl
theorem Uu{zs:List Int}{n:Nat}(h:Pk zs n)(s t:mP)(hs:s.length<=100)(b:Bool)(n3 n4 n5:Int)(l6:mP)(b7:Bool)(l8:List D):
  ∃(d:D) (n':Nat),B1 d/\Pk zs n'/\rk prog bA (.at_ 120 1 (fw 53) (H6 s t b) []
   [Ob.cells (pd n3 n4 n5 l6 b7 l8) [],pk zs n])=some (.d d,[pk zs n']):=by
 cases b with
 |true=>
  obtain⟨k,n',hk,h',hr⟩:=gO h (m:=200) 200 rfl (by omega) (by omega);have w:i64.wrap ((k:Int)-72)=(k:Int)-72:=U5;refine⟨_,n',kE (k:=1) (n:=(k:Int)-72) (u:=0) (s:=[]) (by omega) (by omega) (by omega) (by simp),h',?_⟩;rw[qh,bF,di (m:=2) (fl':=[]) hr rfl rfl,w];rfl
 |false=>
  by_cases hd:t=[100,111,117,98,108,101]
  ·obtain⟨k,n',hk,h',hr⟩:=gO h (m:=255) 255 rfl (by omega) (by omega)
   obtain⟨k2,n2,hk2,h2,hr2⟩:=gO h' (m:=255) 255 rfl (by omega) (by omega);refine⟨_,n2,kE (k:=2) (n:=0) (u:=u64.wrap ((BitVec.ofInt u64.bits (u64.wrap (u64.wrap (k:Int)*36028797018963968)) ||| BitVec.ofInt u64.bits (u64.wrap (u64.wrap (k2:Int)*1099511627776))).toNat:Int)) (s:=[]) (by omega) (by omega) (MJ _) (by simp),h2,?_⟩;rw[qh,bo,dz (by rw[hd];rfl),di (m:=2) (fl':=[]) hr rfl rfl,di (m:=(iN zs n').length) (fl':=[]) hr2 rfl rfl];rfl
  ·by_cases hstr:t=[115,116,114,105,110,103]
   ·obtain⟨d,n',hL,h',hr⟩:=P4 h s t hs true (λ e=>by cases e) n3 n4 n5 l6 b7 l8
    refine⟨d,n',hL,h',?_⟩;have e:(t==[115,116,114,105,110,103])=true:=beq_iff_eq.2 hstr;rw[qh,bo,cF (beq_eq_false_iff_ne.2 hd),e];exact aK hr
   ·obtain⟨d,n',hL,h',hr⟩:=P4 h s t hs (t==[98,105,110,97,114,121]) (λ _=>hd) n3 n4 n5 l6 b7 l8;refine⟨d,n',hL,h',?_⟩;rw[qh,bo,cF (beq_eq_false_iff_ne.2 hd),cF (beq_eq_false_iff_ne.2 hstr)];exact aK hr
theorem TE{zs:List Int}{n:Nat}(h:Pk zs n)(t s:mP)(hs:s.length<=100):∃(d:D) (n':Nat),B1 d/\Pk zs n'/\
  rk prog bA (.call 120 [V.p 0 0,vs t,vs s] [pk zs n])=some (.d d,[pk zs n']):=by
 have key:∀b:Bool,_:=λ b=>Uu h s t hs b 0 0 0 [] true [];by_cases h1:t=[105,51,50]
 ·obtain⟨d,n',hL,h',hr⟩:=key (t==[105,51,50]);refine⟨d,n',hL,h',?_⟩;rw[Sa,dz (beq_iff_eq.2 h1)];exact aK hr
 ·by_cases h2:t=[105,54,52]
  ·obtain⟨d,n',hL,h',hr⟩:=key (t==[105,54,52]);refine⟨d,n',hL,h',?_⟩;rw[Sa,cF (beq_eq_false_iff_ne.2 h1),dz (beq_iff_eq.2 h2)];exact aK hr
  ·by_cases h3:t=[105,49,54]
   ·obtain⟨d,n',hL,h',hr⟩:=key (t==[105,49,54]);refine⟨d,n',hL,h',?_⟩;rw[Sa,cF (beq_eq_false_iff_ne.2 h1),cF (beq_eq_false_iff_ne.2 h2),dz (beq_iff_eq.2 h3)];exact aK hr
   ·obtain⟨d,n',hL,h',hr⟩:=key (t==[105,56]);refine⟨d,n',hL,h',?_⟩;rw[Sa,cF (beq_eq_false_iff_ne.2 h1),cF (beq_eq_false_iff_ne.2 h2),cF (beq_eq_false_iff_ne.2 h3)];exact aK hr
theorem YB(f:Bool)(l:List D)(n:Int)(s:mP):EQ bA (.call 54 [.p 0 0,vs s] [.cells [vl f l,vi n] []]) (c1 (.call 24 [.p 0 0,vi 3] [.cells [vl f l,vi n] []]) 2 [] λ a b=>aI a λ c => .call (.at_ 54 1 (fw 43) (Rh s true [] 0 c) [(5,11)] [.cells b []]) .ret):=bU
theorem YA(f:Bool)(l:List D)(n m:Int)(s:mP)(u:Bool):EQ bA (.call 53 [.p 0 0,vi m,vs s,vb u] [.cells [vl f l,vi n] []]) (c1 (.call 24 [.p 0 0,vi (i64.wrap (m+1))] [.cells [vl f l,vi n] []]) 2 [] λ a c=>aI a λ e => .call (.at_ 53 1 (fw 43) (OG s u true [] 0 e) [(9,11)] [.cells c []]) .ret):=bU
theorem GG(l0:mP)(b1:Bool)(l2:List D)(n3 n4:Int)(l5:List V):EQ bA (.at_ 54 1 (fw 43) (Rh l0 b1 l2 n3 n4) [(5,11)] [.cells l5 []]) (aM (decide (n3<n4)) (c1 (.call 55 [.p 0 0,vs l0,vi 0] [.cells l5 []]) l5.length [] λ a c=>aS a λ e=>aH (bw 11 l2) (aH (b1||true) (aH (decide (l2.length+1<=4294967296)) (.call (.at_ 54 1 (fw 43) (Rh l0 (b1&&false) (l2++[.g [.b true,.i .i64 (i64.wrap (n3+1)),.i .i64 0,.s e,.s ([97]++[UInt8.ofNat (u8.wrap (i64.wrap (48+n3))).toNat]),.b false,.i .i64 0,.i .i64 0,.i .u64 0,.s [],.l true []]]) (i64.wrap (n3+1)) n4) [(5,11)] [.cells c []]) .ret)))) (.ret (vl b1 l2,[.cells l5 []]))):=bU
theorem pN(l0:mP)(b1 b2:Bool)(l3:List D)(n4 n5:Int)(l6:List V):EQ bA (.at_ 53 1 (fw 43) (OG l0 b1 b2 l3 n4 n5) [(9,11)] [.cells l6 []]) (aM (decide (n4<n5)) (.call (.at_ 53 1 (fw 395) (K9 l0 b1 b2 l3 n4 n5 true) [(9,11)] [.cells l6 []]) .ret) (aM b1 (.call (.at_ 53 1 (fw 395) (K9 l0 b1 b2 l3 n4 n5 (n4==0)) [(9,11)] [.cells l6 []]) .ret) (.call (.at_ 53 1 (fw 395) (K9 l0 b1 b2 l3 n4 n5 false) [(9,11)] [.cells l6 []]) .ret))):=bU
theorem uT(l0:mP)(b1 b2:Bool)(l3:List D)(n4 n5:Int)(b6:Bool)(l7:List V):EQ bA (.at_ 53 1 (fw 395) (K9 l0 b1 b2 l3 n4 n5 b6) [(9,11)] [.cells l7 []]) (aM b6 (c1 (.call 24 [.p 0 0,vi 6] [.cells l7 []]) l7.length [] λ a c=>aI a λ e=>c1 (.call 24 [.p 0 0,vi 3] [.cells c []]) c.length [] λ f g=>aI f λ h=>c1 (.call 55 [.p 0 0,vs l0,vi 0] [.cells g []]) g.length [] λ j k=>aS j λ m=>aM (!decide (e>0)) (.call (.at_ 53 1 (fw 3659) (JG l0 b1 b2 l3 n4 n5) [(9,11)] [.cells (pT (decide (e>0)) 0 0 m ([102]++[UInt8.ofNat (u8.wrap (i64.wrap (97+n4))).toNat]) false 0 0 0 [] true []) [],.cells k []]) .ret) (.call (.at_ 53 1 (fw 3659) (JG l0 b1 b2 l3 n4 n5) [(9,11)] [.cells (pT (decide (e>0)) (i64.wrap (i64.wrap (1+n4)+i64.wrap (i64.wrap (n4*h)*8))) 0 m ([102]++[UInt8.ofNat (u8.wrap (i64.wrap (97+n4))).toNat]) false 0 0 0 [] true []) [],.cells k []]) .ret)) (.ret (vl b2 l3,[.cells l7 []]))):=bU
theorem lC(l0:mP)(b1 b2:Bool)(l3:List D)(n4 n5:Int)(b6:Bool)(n7 n8:Int)(l9 l10:mP)(b11:Bool)(n12 n13 n14:Int)(l15:mP)(b16:Bool)(l17:List D)(l18:List V):EQ bA (.at_ 53 1 (fw 3659) (JG l0 b1 b2 l3 n4 n5) [(9,11)] [.cells (pT b6 n7 n8 l9 l10 b11 n12 n13 n14 l15 b16 l17) [],.cells l18 []]) (aM (!b1) (c1 (.call 24 [.p 0 0,vi 4] [.cells l18 []]) l18.length [] λ a c=>aI a λ e=>eC [.i .i64 0,.i .i64 0,.i .i64 1,.i .i64 2] e 1 0 λ f=>bR .i64 f λ g=>aM (g==1) (aH (decide (l0.length+1<4611686018427387904)) (aM (l9==l0++[80]) (c1 (.call 24 [.p 0 0,vi 4] [.cells c []]) c.length [] λ h j=>aI h λ k => .call (.at_ 53 1 (fw 218699) (TB l0 b1 b2 l3 n4 n5 (decide (k>0))) [(9,11)] [.cells (pT b6 n7 g l9 l10 b11 n12 n13 n14 l15 b16 l17) [],.cells j []]) .ret) (aH (decide (l0.length+1<4611686018427387904)) (aM (l9==l0++[85]) (c1 (.call 24 [.p 0 0,vi 4] [.cells c []]) c.length [] λ m n=>aI m λ o => .call (.at_ 53 1 (fw 218699) (TB l0 b1 b2 l3 n4 n5 (decide (o>0))) [(9,11)] [.cells (pT b6 n7 g l9 l10 b11 n12 n13 n14 l15 b16 l17) [],.cells n []]) .ret) (.call (.at_ 53 1 (fw 218699) (TB l0 b1 b2 l3 n4 n5 false) [(9,11)] [.cells (pT b6 n7 g l9 l10 b11 n12 n13 n14 l15 b16 l17) [],.cells c []]) .ret))))) (.call (.at_ 53 1 (fw 218699) (TB l0 b1 b2 l3 n4 n5 false) [(9,11)] [.cells (pT b6 n7 g l9 l10 b11 n12 n13 n14 l15 b16 l17) [],.cells c []]) .ret)) (.call (.at_ 53 1 (fw 7755) (JG l0 b1 b2 l3 n4 n5) [(9,11)] [.cells (pT b6 n7 n8 l9 l10 b11 n12 n13 n14 l15 b16 l17) [],.cells l18 []]) .ret)):=bU
theorem kK(l0:mP)(b1 b2:Bool)(l3:List D)(n4 n5:Int)(b6 b7:Bool)(n8 n9:Int)(l10 l11:mP)(b12:Bool)(n13 n14 n15:Int)(l16:mP)(b17:Bool)(l18:List D)(l19:List V):EQ bA (.at_ 53 1 (fw 218699) (TB l0 b1 b2 l3 n4 n5 b6) [(9,11)] [.cells (pT b7 n8 n9 l10 l11 b12 n13 n14 n15 l16 b17 l18) [],.cells l19 []]) (aM b6 (c1 (.call 24 [.p 0 0,vi 6] [.cells l19 []]) l19.length [] λ a c=>aI a λ e=>aM (e==0) (c1 (.call 120 [.p 0 0,vs l10,vs l0] [.cells c []]) c.length [] λ f g=>bm f λ h=>jM 5 h λ j=>aH ([.d (pb j 0),.d (pb j 1),.d (pb j 2),.d (pb j 3),.d (pb j 4)].all V.one) (.call (.at_ 53 1 (fw 7755) (JG l0 b1 b2 l3 n4 n5) [(9,11)] [.cells [vb b7,vi n8,vi 0,vs l10,vs l11,vb true,.d (pb j 0),.d (pb j 1),.d (pb j 2),.d (pb j 3),.d (pb j 4)] [],.cells g []]) .ret)) (.call (.at_ 53 1 (fw 7755) (JG l0 b1 b2 l3 n4 n5) [(9,11)] [.cells (pT b7 n8 0 l10 l11 b12 n13 n14 n15 l16 b17 l18) [],.cells c []]) .ret)) (c1 (.call 24 [.p 0 0,vi 6] [.cells l19 []]) l19.length [] λ k m=>aI k λ n=>aM (n==0) (c1 (.call 120 [.p 0 0,vs l10,vs l0] [.cells m []]) m.length [] λ o q=>bm o λ r=>jM 5 r λ t=>aH ([.d (pb t 0),.d (pb t 1),.d (pb t 2),.d (pb t 3),.d (pb t 4)].all V.one) (.call (.at_ 53 1 (fw 7755) (JG l0 b1 b2 l3 n4 n5) [(9,11)] [.cells [vb b7,vi n8,vi n9,vs l10,vs l11,vb true,.d (pb t 0),.d (pb t 1),.d (pb t 2),.d (pb t 3),.d (pb t 4)] [],.cells q []]) .ret)) (.call (.at_ 53 1 (fw 7755) (JG l0 b1 b2 l3 n4 n5) [(9,11)] [.cells (pT b7 n8 n9 l10 l11 b12 n13 n14 n15 l16 b17 l18) [],.cells m []]) .ret))):=bU
theorem I5(l0:mP)(b1 b2:Bool)(l3:List D)(n4 n5:Int)(b6:Bool)(n7 n8:Int)(l9 l10:mP)(b11:Bool)(n12 n13 n14:Int)(l15:mP)(b16:Bool)(l17:List D)(l18:List V):EQ bA (.at_ 53 1 (fw 7755) (JG l0 b1 b2 l3 n4 n5) [(9,11)] [.cells (pT b6 n7 n8 l9 l10 b11 n12 n13 n14 l15 b16 l17) [],.cells l18 []]) (aH (bw 11 l3) (aH (b2||true) (aH (decide (l3.length+1<=4294967296)) (.call (.at_ 53 1 (fw 43) (OG l0 b1 (b2&&false) (l3++[.g [.b b6,.i .i64 n7,.i .i64 n8,.s l9,.s l10,.b b11,.i .i64 n12,.i .i64 n13,.i .u64 n14,.s l15,.l b16 l17]]) (i64.wrap (n4+1)) n5) [(9,11)] [.cells l18 []]) .ret)))):=bU
def eN(d:D):Prop:=∃(h:Bool) (id r:Int) (t nm:mP) (hi:Bool) (k n u:Int) (s:mP),
 d = .g [.b h,.i .i64 id,.i .i64 r,.s t,.s nm,.b hi,.i .i64 k,.i .i64 n,.i .u64 u,.s s,.l true []]/\0<=id/\id<=1000/\0<=r/\r<=2/\t.length<=442/\nm.length<=2/\
  (hi=true->1<=k)/\0<=k/\k<=5/\-1000<=n/\n<=1000/\0<=u/\u<18446744073709551616/\s.length<=103
theorem eN.width{d:D}(h:eN d):d.width=11:=by obtain⟨_,_,_,_,_,_,_,_,_,_,rfl,_⟩:=h;rfl
theorem sJ{l:List D}(h:∀x∈l,eN x):bw 11 l=true:=by
 cases l with
 |nil=>rfl
 |cons x l=>
  have:=(h x (by simp)).width;simp[bw,this]
theorem PQ{zs:List Int}{n:Nat}(h:Pk zs n)(s:mP)(hs:s.length<=100):∃(t:mP) (n':Nat),t.length<=442/\Pk zs n'/\
  rk prog bA (.call 55 [V.p 0 0,vs s,vi 0] [pk zs n])=some (.d (.s t),[pk zs n']):=BS zs n s h hs
theorem zV(zs:List Int)(s:mP)(hs:s.length<=100)(N:Nat)(hN:N<=2):∀(m i n:Nat) (b:Bool) (l:List D),i+m=N->Pk zs n->l.length=i->(∀x∈l,eN x)->
  ∃(b':Bool) (l':List D) (n':Nat),l'.length<=2/\(∀x∈l',eN x)/\Pk zs n'/\
   rk prog bA (.at_ 54 1 (fw 43) (Rh s b l (i:Int) (N:Int)) [(5,11)] [Ob.cells (iN zs n) []])=some (.d (.l b' l'),[pk zs n'])
 |0,i,n,b,l,e,h,hl,hf=>by
  refine⟨b,l,n,by omega,hf,h,?_⟩;rw[GG,bn];rfl
 |m+1,i,n,b,l,e,h,hl,hf=>by
  obtain⟨t,n2,ht,h2,hr⟩:=PQ h s hs;have w1:=Wv i;have hf':∀x∈l++[D.g [D.b true,D.i .i64 ((i+1:Nat):Int),D.i .i64 0,D.s t,D.s ([97]++[UInt8.ofNat (u8.wrap (i64.wrap (48+(i:Int)))).toNat]),D.b false,D.i .i64 0,D.i .i64 0,D.i .u64 0,D.s [],D.l true []]],eN x:=by
   intro x hx;rcases List.mem_append.1 hx with hx|hx
   ·exact hf x hx
   ·simp only[List.mem_singleton]at hx;subst hx;exact⟨_,_,_,_,_,_,_,_,_,_,rfl,by omega,by omega,by omega,by omega,ht,by simp,by simp,by omega,by omega,by omega,by omega,by omega,by omega,by simp⟩
  obtain⟨b',l',n',q1,q2,q3,q4⟩:=zV zs s hs N hN m (i+1) n2 (b&&false) _ (by omega) h2 (by simp[hl]) hf';refine⟨b',l',n',q1,q2,q3,?_⟩;rw[GG,bz,jX (m:=(iN zs n).length) (fl':=[]) hr rfl rfl,sJ hf,aN,Bool.or_true,aN,aJ,w1];exact aK q4
theorem SM{zs:List Int}{n:Nat}(h:Pk zs n)(s:mP)(hs:s.length<=100):∃(b:Bool) (l:List D) (n':Nat),l.length<=2/\(∀x∈l,eN x)/\Pk zs n'/\
  rk prog bA (.call 54 [V.p 0 0,vs s] [pk zs n])=some (.d (.l b l),[pk zs n']):=by
 obtain⟨k,n1,hk,h1,hr⟩:=gO h (m:=3) 3 rfl (by omega) (by omega);obtain⟨b,l,n',q1,q2,q3,q4⟩:=zV zs s hs k (by omega) k 0 n1 true [] (by omega) h1 rfl (by simp);refine⟨b,l,n',q1,q2,q3,?_⟩;rw[YB,di (m:=2) (fl':=[]) hr rfl rfl];exact aK q4
theorem jD{f:Task->Option Out}{t:Task}{gs:List D}{cs:List V}{fl fl':Fl}{m w:Nat}{K:List V->List D->Tr}(h:f t=some (.d (.g gs),[.cells cs fl]))(hm:cs.length=m)(hf:(fl==fl')=true)(hw:gs.length=w):
  aC f (.call t λ o=>ee o.snd λ x l2=>dx x λ c g=>aH (c.length==m) (aH (g==fl') (iK l2 (bm o.fst λ d=>jM w d λ y=>K c y))))=aC f (K cs gs):=by
 rw[cp h];show aC f (aH (cs.length==m) (aH (fl==fl') (jM w (.g gs) λ y=>K cs y)))=_;rw[hm,beq_self_eq_true,aN,hf,aN,jU,if_pos hw]
def ix(zs:List Int)(t:Task):Prop:=∃(b':Bool) (l':List D) (n':Nat),l'.length<=5/\(∀x∈l',eN x)/\Pk zs n'/\rk prog bA t=some (.d (.l b' l'),[pk zs n'])
abbrev fc(h:Bool)(id r:Int)(t nm:mP)(hi:Bool)(k n u:Int)(s:mP):Ob:=
 Ob.cells (pT h id r t nm hi k n u s true []) []
abbrev Up(s:mP)(u b:Bool)(l:List D)(i N:Int)(o:Ob):Task:=
 Task.at_ 53 1 (fw 43) (OG s u b l i N) [(9,11)] [o]
abbrev Uq(s:mP)(u b:Bool)(l:List D)(i N:Int)(f o:Ob):Task:=
 Task.at_ 53 1 (fw 7755) (JG s u b l i N) [(9,11)] [f,o]
abbrev VF(s:mP)(u b:Bool)(l:List D)(i N:Int)(c:Bool)(f o:Ob):Task:=
 Task.at_ 53 1 (fw 218699) (TB s u b l i N c) [(9,11)] [f,o]
abbrev Xk(s:mP)(u b:Bool)(l:List D)(i N:Int)(f o:Ob):Task:=
 Task.at_ 53 1 (fw 3659) (JG s u b l i N) [(9,11)] [f,o]
abbrev R4(s:mP)(u b:Bool)(l:List D)(i N:Int)(c:Bool)(o:Ob):Task:=
 Task.at_ 53 1 (fw 395) (K9 s u b l i N c) [(9,11)] [o]
theorem ix.of_eq{zs:List Int}{t t2:Task}(h:ix zs t2)(e:rk prog bA t=aC (rk prog bA) (Tr.call t2 Tr.ret)):ix zs t:=by obtain⟨b,l,n,h1,h2,h3,h4⟩:=h;exact⟨b,l,n,h1,h2,h3,by rw[e];exact aK h4⟩
section
variable {zs : List Int} {s : mP} (hs : s.length ≤ 100) {u b : Bool} {l : List D} {i N : Nat} (hl : l.length = i) (hi5 : i < 5) (hf : ∀ x ∈ l, eN x)
include hs hl hi5 hf
theorem Tq{h:Bool}{id r:Int}{t nm:mP}{hi:Bool}{k n u':Int}{s':mP}{m:Nat}
  (hg:ix zs (Up s u (b&&false) (l++[D.g [.b h,.i .i64 id,.i .i64 r,.s t,.s nm,.b hi,.i .i64 k,.i .i64 n,.i .u64 u',.s s',.l true []]]) ((i+1:Nat):Int) (N:Int) (pk zs m))):
  ix zs (Uq s u b l (i:Int) (N:Int) (fc h id r t nm hi k n u' s') (pk zs m)):=by
 refine hg.of_eq ?_;have w1:=Wv i;rw[I5,sJ hf,aN,Bool.or_true,aN,aJ,w1]
def VR(zs:List Int)(s:mP)(u b:Bool)(l:List D)(i N:Nat):Prop:=∀(x:D) (m:Nat),eN x->Pk zs m->ix zs (Up s u (b&&false) (l++[x]) ((i+1:Nat):Int) (N:Int) (pk zs m))
theorem WE(hN:VR zs s u b l i N){c h:Bool}{id r:Int}{t nm:mP}{m:Nat}(hp:Pk zs m)(hid:0<=id/\id<=1000)(hr:0<=r/\r<=2)(ht:t.length<=442)(hnm:nm.length<=2):
  ix zs (VF s u b l (i:Int) (N:Int) c (fc h id r t nm false 0 0 0 []) (pk zs m)):=by
 obtain⟨k,m2,hk,h2,hr2⟩:=gO hp (m:=6) 6 rfl (by omega) (by omega);obtain⟨d,m3,⟨ck,cn,cu,cs,rfl,q1,q2,q3,q4,q5,q6,q7⟩,h3,hr3⟩:=TE h2 t s hs
 have plain:∀r':Int,0<=r'/\r'<=2->ix zs (Uq s u b l (i:Int) (N:Int) (fc h id r' t nm false 0 0 0 []) (pk zs m2)):=λ r' hr'=>
  Tq hs hl hi5 hf (hN _ _ ⟨_,_,_,_,_,_,_,_,_,_,rfl,hid.1,hid.2,hr'.1,hr'.2,ht,hnm,by simp,by omega,by omega,by omega,by omega,by omega,by omega,by simp⟩ h2)
 have made:∀r':Int,0<=r'/\r'<=2->ix zs (Uq s u b l (i:Int) (N:Int) (fc h id r' t nm true ck cn cu cs) (pk zs m3)):=λ r' hr'=>
  Tq hs hl hi5 hf (hN _ _ ⟨_,_,_,_,_,_,_,_,_,_,rfl,hid.1,hid.2,hr'.1,hr'.2,ht,hnm,λ _=>q1,by omega,q2,q3,q4,q5,q6,q7⟩ h3)
 cases c with
 |true=>
  by_cases hk0:k=0
  ·refine(made 0 (by omega)).of_eq ?_
   rw[kK,bF,di (m:=(iN zs m).length) (fl':=[]) hr2 rfl rfl,bK,jD (m:=(iN zs m2).length) (fl':=[]) (w:=5) hr3 rfl rfl rfl];rfl
  ·refine(plain 0 (by omega)).of_eq ?_
   rw[kK,bF,di (m:=(iN zs m).length) (fl':=[]) hr2 rfl rfl,bu]
 |false=>
  by_cases hk0:k=0
  ·refine(made r hr).of_eq ?_;rw[kK,bo,di (m:=(iN zs m).length) (fl':=[]) hr2 rfl rfl,bK,jD (m:=(iN zs m2).length) (fl':=[]) (w:=5) hr3 rfl rfl rfl];rfl
  ·refine(plain r hr).of_eq ?_;rw[kK,bo,di (m:=(iN zs m).length) (fl':=[]) hr2 rfl rfl,bu]
theorem Vc(hN:VR zs s u b l i N){h:Bool}{id:Int}{t nm:mP}{m:Nat}(hp:Pk zs m)(hid:0<=id/\id<=1000)(ht:t.length<=442)(hnm:nm.length<=2):
  ix zs (Xk s u b l (i:Int) (N:Int) (fc h id 0 t nm false 0 0 0 []) (pk zs m)):=by
 cases hu:u with
 |true=>
  subst hu;refine(Tq hs hl hi5 hf (hN _ _ ⟨h,id,0,t,nm,false,0,0,0,[],rfl,hid.1,hid.2,by omega,by omega,ht,hnm,by simp,by omega,by omega,by omega,by omega,by omega,by omega,by simp⟩ hp)).of_eq ?_;rw[lC,jF]
 |false=>
  subst hu;obtain⟨k,m2,hk,h2,hr2⟩:=gO hp (m:=4) 4 rfl (by omega) (by omega);have hx:∃r:Int,([D.i i64 0,D.i i64 0,D.i i64 1,D.i i64 2]:List D)[k]?=some (.i .i64 r)/\0<=r/\r<=2:=by
   rcases k with _|_|_|_|k
   all_goals first
    |(refine⟨_,rfl,?_,?_⟩<;>omega)
    |omega
  obtain⟨r,hr,hr0⟩:=hx;obtain⟨k3,m3,hk3,h3,hr3⟩:=gO h2 (m:=4) 4 rfl (by omega) (by omega);have g:∀(c:Bool) (m':Nat),Pk zs m'->ix zs (VF s false b l (i:Int) (N:Int) c (fc h id r t nm false 0 0 0 []) (pk zs m')):=λ c m' hm'=>WE hs hl hi5 hf hN hm' hid hr0 ht hnm;by_cases hr1:r=1
  ·by_cases hP:t=s++[80]
   ·refine(g (decide ((k3:Int)>0)) m3 h3).of_eq ?_;rw[lC,iI,di (m:=(iN zs m).length) (fl':=[]) hr2 rfl rfl,Qc hr,bK hr1,aJ,dz (beq_iff_eq.2 hP),di (m:=(iN zs m2).length) (fl':=[]) hr3 rfl rfl]
   ·by_cases hU:t=s++[85]
    ·refine(g (decide ((k3:Int)>0)) m3 h3).of_eq ?_;rw[lC,iI,di (m:=(iN zs m).length) (fl':=[]) hr2 rfl rfl,Qc hr,bK hr1,aJ,cF (beq_eq_false_iff_ne.2 hP),aJ,dz (beq_iff_eq.2 hU),di (m:=(iN zs m2).length) (fl':=[]) hr3 rfl rfl]
    ·refine(g false m2 h2).of_eq ?_;rw[lC,iI,di (m:=(iN zs m).length) (fl':=[]) hr2 rfl rfl,Qc hr,bK hr1,aJ,cF (beq_eq_false_iff_ne.2 hP),aJ,cF (beq_eq_false_iff_ne.2 hU)]
  ·refine(g false m2 h2).of_eq ?_;rw[lC,iI,di (m:=(iN zs m).length) (fl':=[]) hr2 rfl rfl,Qc hr,bu hr1]
theorem WG(hN:VR zs s u b l i N){m:Nat}(hp:Pk zs m):ix zs (R4 s u b l (i:Int) (N:Int) true (pk zs m)):=by
 obtain⟨k,m2,hk,h2,hr2⟩:=gO hp (m:=6) 6 rfl (by omega) (by omega);obtain⟨k3,m3,hk3,h3,hr3⟩:=gO h2 (m:=3) 3 rfl (by omega) (by omega);obtain⟨t,m4,ht,h4,hr4⟩:=PQ h3 s hs;have w1:i64.wrap (1+(i:Int))=1+(i:Int):=U5;have hik:(0:Int)<=(i:Int)*(k3:Int)/\(i:Int)*(k3:Int)<=12:=by
  have h1:(i:Int)*(k3:Int)=((i*k3:Nat):Int):=by push_cast;rfl
  have h2:i*k3<=4*3:=Nat.mul_le_mul (by omega) (by omega);omega
 have w2:i64.wrap ((i:Int)*(k3:Int))=(i:Int)*(k3:Int):=U5;have w3:i64.wrap ((i:Int)*(k3:Int)*8)=(i:Int)*(k3:Int)*8:=U5;have w4:i64.wrap (1+(i:Int)+(i:Int)*(k3:Int)*8)=1+(i:Int)+(i:Int)*(k3:Int)*8:=U5;by_cases hk0:(k:Int)>0
 ·refine(Vc hs hl hi5 hf hN (h:=decide ((k:Int)>0)) (id:=1+(i:Int)+(i:Int)*(k3:Int)*8) (t:=t) (nm:=[102]++[UInt8.ofNat (u8.wrap (i64.wrap (97+(i:Int)))).toNat]) h4 (by omega) ht (by simp)).of_eq ?_
  rw[uT,bF,di (m:=(iN zs m).length) (fl':=[]) hr2 rfl rfl,di (m:=(iN zs m2).length) (fl':=[]) hr3 rfl rfl,jX (m:=(iN zs m3).length) (fl':=[]) hr4 rfl rfl,cF (by simpa using hk0),w1,w2,w3,w4]
 ·refine(Vc hs hl hi5 hf hN (h:=decide ((k:Int)>0)) (id:=0) (t:=t) (nm:=[102]++[UInt8.ofNat (u8.wrap (i64.wrap (97+(i:Int)))).toNat]) h4 (by omega) ht (by simp)).of_eq ?_
  rw[uT,bF,di (m:=(iN zs m).length) (fl':=[]) hr2 rfl rfl,di (m:=(iN zs m2).length) (fl':=[]) hr3 rfl rfl,jX (m:=(iN zs m3).length) (fl':=[]) hr4 rfl rfl,dz (by simpa using hk0)]
end
theorem EI{zs:List Int}{s:mP}{u b:Bool}{l:List D}{i N:Int}(hl:l.length<=5)(hf:∀x∈l,eN x){m:Nat}(hp:Pk zs m):ix zs (R4 s u b l i N false (pk zs m)):=
 ⟨b,l,m,hl,hf,hp,by rw[uT,bo];rfl⟩
theorem Vd{zs:List Int}{s:mP}(hs:s.length<=100)(u:Bool){N:Nat}(hN:N<=5):∀(j i:Nat) (b:Bool) (l:List D) (m:Nat),i+j=max N 1->l.length=i->(∀x∈l,eN x)->Pk zs m->
  ix zs (Up s u b l (i:Int) (N:Int) (pk zs m))
 |0,i,b,l,m,e,hl,hf,hp=>by
  have hend:ix zs (R4 s u b l (i:Int) (N:Int) false (pk zs m)):=EI (by omega) hf hp;refine hend.of_eq ?_
  cases u with
  |true=>
   have e0:((i:Int)==0)=false:=beq_eq_false_iff_ne.2 (by omega);rw[pN,bn,bF,e0]
  |false=>rw[pN,bn,bo]
 |j+1,i,b,l,m,e,hl,hf,hp=>by
  have nx:VR zs s u b l i N:=λ x m' hx hm'=>Vd hs u hN j (i+1) (b&&false) (l++[x]) m' (by omega) (by simp[hl]) (λ y hy=>by
   rcases List.mem_append.1 hy with hy|hy
   ·exact hf y hy
   ·simp only[List.mem_singleton]at hy;subst hy;exact hx) hm'
  have good:ix zs (R4 s u b l (i:Int) (N:Int) true (pk zs m)):=WG hs hl (by omega) hf nx hp;by_cases hi:i<N
  ·refine good.of_eq ?_;rw[pN,bz]
  ·cases u with
   |true=>
    refine good.of_eq ?_;have e0:((i:Int)==0)=true:=beq_iff_eq.2 (by omega);rw[pN,bn,bF,e0]
   |false=>
    refine(EI (u:=false) (s:=s) (b:=b) (i:=(i:Int)) (N:=(N:Int)) (by omega) hf hp).of_eq ?_;rw[pN,bn,bo]
theorem kh{zs:List Int}{n:Nat}(h:Pk zs n)(M:Int){most:Nat}(hM:M=(most:Int))(hm:most<=5)(s:mP)(hs:s.length<=100)(u:Bool):∃(b:Bool) (l:List D) (n':Nat),l.length<=5/\(∀x∈l,eN x)/\Pk zs n'/\
  rk prog bA (.call 53 [V.p 0 0,vi M,vs s,vb u] [pk zs n])=some (.d (.l b l),[pk zs n']):=by
 subst hM;have w1:=Wv most;obtain⟨k,n1,hk,h1,hr⟩:=gO h (m:=most+1) _ rfl (by omega) (by omega);obtain⟨b,l,n',q1,q2,q3,q4⟩:=Vd hs u (N:=k) (by omega) (max k 1) 0 true [] n1 (by omega) rfl (by simp) h1;refine⟨b,l,n',q1,q2,q3,?_⟩;rw[YA,w1,di (m:=2) (fl':=[]) hr rfl rfl];exact aK q4
theorem Yv(f:Bool)(l:List D)(n:Int):EQ bA (.call 26 [.p 0 0] [.cells [vl f l,vi n] []]) (c1 (.call 24 [.p 0 0,vi 3] [.cells [vl f l,vi n] []]) 2 [] λ a c=>aI a λ e => .call (.at_ 26 1 (fw 43) (DW 0 e) [] [.cells (nY 2 [69] [] 0 0 0 [] true [] true [] true [.g [.s [65],.b false,.i .i64 0]] [] true []) [(9,3)],.cells c []]) .ret):=bU
theorem Yu(f:Bool)(l:List D)(n:Int)(s:mP):EQ bA (.call 25 [.p 0 0,vs s] [.cells [vl f l,vi n] []]) (c1 (.call 53 [.p 0 0,vi 5,vs s,vb false] [.cells [vl f l,vi n] []]) 2 [] λ a c=>aL a λ e g=>c1 (.call 53 [.p 0 0,vi 2,vs s,vb false] [.cells c []]) c.length [] λ h j=>aL h λ k m=>c1 (.call 24 [.p 0 0,vi 4] [.cells j []]) j.length [] λ o q=>aI o λ r => .call (.at_ 25 1 (fw 175) (Ou s 0 r) [] [.cells (nY 7 [86] [] 0 0 0 [] true [] true [] true [] [] true []) [(11,5)],.cells (nY 6 [88] [] 0 0 0 [] true [] k m true [] [] true []) [],.cells (nY 4 [81] [] 0 0 0 [] true [] e g true [] [] true []) [],.cells q []]) .ret):=bU
theorem XO(f:Bool)(l:List D)(n:Int):EQ bA (.call 11 [.p 0 0] [.cells [vl f l,vi n] []]) (c1 (.call 24 [.p 0 0,vi 3] [.cells [vl f l,vi n] []]) 2 [] λ a b=>aI a λ c=>aM (c==0) (c1 (.call 25 [.p 0 0,vs [98,97,115,101,46]] [.cells b []]) b.length [] λ e h=>aL e λ j k=>c1 (.call 26 [.p 0 0] [.cells h []]) h.length [] λ m o=>aL m λ q r => .ret (vl true [.g [.l true [.s [98,97,115,101]],.l true [.g [.s [103,111],.s [97,46,98]]],.l j k],.g [.l true [],.l true [],.l q r]],[.cells o []])) (c1 (.call 26 [.p 0 0] [.cells b []]) b.length [] λ t zu=>aL t λ v w=>c1 (.call 25 [.p 0 0,vs []] [.cells zu []]) zu.length [] λ x y=>aL x λ z a0=>aH v (aH (bw 12 w) (aH (bw 12 a0) (aH (v||dK a0) (aH (decide (w.length+a0.length<=4294967296)) (.ret (vl true [.g [.l true [],.l true [],.l (v&&a0.isEmpty) (w++a0)]],[.cells y []])))))))):=bU
theorem nj(n0 n1 n2:Int)(l3 l4:mP)(n5 n6 n7:Int)(l8:mP)(b9:Bool)(l10:List D)(b11:Bool)(l12:List D)(b13:Bool)(l14:List D)(l15:mP)(b16:Bool)(l17:List D)(l18:List V):EQ bA (.at_ 26 1 (fw 43) (DW n0 n1) [] [.cells (nY n2 l3 l4 n5 n6 n7 l8 b9 l10 b11 l12 b13 l14 l15 b16 l17) [(9,3)],.cells l18 []]) (aM (decide (n0<n1)) (c1 (.call 24 [.p 0 0,vi 2] [.cells l18 []]) l18.length [] λ a c=>aI a λ e=>aM (e==0) (c1 (.call 24 [.p 0 0,vi 9] [.cells c []]) c.length [] λ f h=>aI f λ j => .call (.at_ 26 1 (fw 3659) (O9 n0 n1) [] [.cells [vs [UInt8.ofNat (u8.wrap (i64.wrap (66+n0))).toNat],vb true,vi (i64.wrap (i64.wrap (5+i64.wrap (10*n0))+j))] [],.cells (nY n2 l3 l4 n5 n6 n7 l8 b9 l10 b11 l12 b13 l14 l15 b16 l17) [(9,3)],.cells h []]) .ret) (.call (.at_ 26 1 (fw 3659) (O9 n0 n1) [] [.cells [vs [UInt8.ofNat (u8.wrap (i64.wrap (66+n0))).toNat],vb false,vi 0] [],.cells (nY n2 l3 l4 n5 n6 n7 l8 b9 l10 b11 l12 b13 l14 l15 b16 l17) [(9,3)],.cells c []]) .ret)) (c1 (.call 24 [.p 0 0,vi 4] [.cells l18 []]) l18.length [] λ k m=>aI k λ n=>eC [.s [105,51,50],.s [108,105,115,116,60,69,62],.s [115,116,114,105,110,103],.s [109,97,112,60,115,116,114,105,110,103,44,105,54,52,62]] n 1 0 λ o=>eF o λ q=>aM (q==[105,51,50]) (c1 (.call 24 [.p 0 0,vi 99] [.cells m []]) m.length [] λ r t=>aI r λ zu => .call (.at_ 26 1 (fw 127) Io [] [.cells (nY 3 [67] [84] 1 zu 0 [] true [] true [] true [] [] true []) [],.cells (nY 1 [84] q 0 0 0 [] true [] true [] true [] [] true []) [],.cells (nY n2 l3 l4 n5 n6 n7 l8 b9 l10 b11 l12 b13 l14 l15 b16 l17) [(9,3)],.cells t []]) .ret) (aM (q==[108,105,115,116,60,69,62]) (.call (.at_ 26 1 (fw 127) Io [] [.cells (nY 3 [67] [84] 5 0 0 [] true [.g [.i .i64 4,.i .i64 0,.i .u64 0,.s [69,46,65],.l true []],.g [.i .i64 1,.i .i64 0,.i .u64 0,.s [],.l true []]] true [] true [] [] true []) [],.cells (nY 1 [84] q 0 0 0 [] true [] true [] true [] [] true []) [],.cells (nY n2 l3 l4 n5 n6 n7 l8 b9 l10 b11 l12 b13 l14 l15 b16 l17) [(9,3)],.cells m []]) .ret) (aM (q==[115,116,114,105,110,103]) (.call (.at_ 26 1 (fw 127) Io [] [.cells (nY 3 [67] [84] 3 0 0 [99] true [] true [] true [] [] true []) [],.cells (nY 1 [84] q 0 0 0 [] true [] true [] true [] [] true []) [],.cells (nY n2 l3 l4 n5 n6 n7 l8 b9 l10 b11 l12 b13 l14 l15 b16 l17) [(9,3)],.cells m []]) .ret) (.call (.at_ 26 1 (fw 127) Io [] [.cells (nY 3 [67] [84] 5 0 0 [] true [] true [] true [] [] true []) [],.cells (nY 1 [84] q 0 0 0 [] true [] true [] true [] [] true []) [],.cells (nY n2 l3 l4 n5 n6 n7 l8 b9 l10 b11 l12 b13 l14 l15 b16 l17) [(9,3)],.cells m []]) .ret))))):=bU
theorem nh(l0:mP)(n1 n2 n3:Int)(l4 l5:mP)(n6 n7 n8:Int)(l9:mP)(b10:Bool)(l11:List D)(b12:Bool)(l13:List D)(b14:Bool)(l15:List D)(l16:mP)(b17:Bool)(l18:List D)(n19:Int)(l20 l21:mP)(n22 n23 n24:Int)(l25:mP)(b26:Bool)(l27:List D)(b28:Bool)(l29:List D)(b30:Bool)(l31:List D)(l32:mP)(b33:Bool)(l34:List D)(n35:Int)(l36 l37:mP)(n38 n39 n40:Int)(l41:mP)(b42:Bool)(l43:List D)(b44:Bool)(l45:List D)(b46:Bool)(l47:List D)(l48:mP)(b49:Bool)(l50:List D)(l51:List V):EQ bA (.at_ 25 1 (fw 175) (Ou l0 n1 n2) [] [.cells (nY n3 l4 l5 n6 n7 n8 l9 b10 l11 b12 l13 b14 l15 l16 b17 l18) [(11,5)],.cells (nY n19 l20 l21 n22 n23 n24 l25 b26 l27 b28 l29 b30 l31 l32 b33 l34) [],.cells (nY n35 l36 l37 n38 n39 n40 l41 b42 l43 b44 l45 b46 l47 l48 b49 l50) [],.cells l51 []]) (aM (decide (n1<n2)) (c1 (.call 54 [.p 0 0,vs l0] [.cells l51 []]) l51.length [] λ a c=>aL a λ e f=>c1 (.call 24 [.p 0 0,vi 4] [.cells c []]) c.length [] λ h j=>aI h λ k=>aM (k==0) (.call (.at_ 25 1 (fw 14639) (TA l0 n1 n2) [] [.cells (tF ([109]++[UInt8.ofNat (u8.wrap (i64.wrap (48+n1))).toNat]) true [118,111,105,100] e f true []) [],.cells (nY n3 l4 l5 n6 n7 n8 l9 b10 l11 b12 l13 b14 l15 l16 b17 l18) [(11,5)],.cells (nY n19 l20 l21 n22 n23 n24 l25 b26 l27 b28 l29 b30 l31 l32 b33 l34) [],.cells (nY n35 l36 l37 n38 n39 n40 l41 b42 l43 b44 l45 b46 l47 l48 b49 l50) [],.cells j []]) .ret) (aM (k==1) (.call (.at_ 25 1 (fw 14639) (TA l0 n1 n2) [] [.cells (tF ([109]++[UInt8.ofNat (u8.wrap (i64.wrap (48+n1))).toNat]) false [118,111,105,100] e f true [.g [.b true,.i .i64 1,.i .i64 0,.s [88],.s [120],.b false,.i .i64 0,.i .i64 0,.i .u64 0,.s [],.l true []]]) [],.cells (nY n3 l4 l5 n6 n7 n8 l9 b10 l11 b12 l13 b14 l15 l16 b17 l18) [(11,5)],.cells (nY n19 l20 l21 n22 n23 n24 l25 b26 l27 b28 l29 b30 l31 l32 b33 l34) [],.cells (nY n35 l36 l37 n38 n39 n40 l41 b42 l43 b44 l45 b46 l47 l48 b49 l50) [],.cells j []]) .ret) (c1 (.call 55 [.p 0 0,vs l0,vi 0] [.cells j []]) j.length [] λ m n=>aS m λ o=>c1 (.call 24 [.p 0 0,vi 2] [.cells n []]) n.length [] λ q r=>aI q λ t=>aM (t==0) (.call (.at_ 25 1 (fw 14639) (TA l0 n1 n2) [] [.cells (tF ([109]++[UInt8.ofNat (u8.wrap (i64.wrap (48+n1))).toNat]) false o e f true [.g [.b true,.i .i64 1,.i .i64 0,.s [88],.s [120],.b false,.i .i64 0,.i .i64 0,.i .u64 0,.s [],.l true []]]) [],.cells (nY n3 l4 l5 n6 n7 n8 l9 b10 l11 b12 l13 b14 l15 l16 b17 l18) [(11,5)],.cells (nY n19 l20 l21 n22 n23 n24 l25 b26 l27 b28 l29 b30 l31 l32 b33 l34) [],.cells (nY n35 l36 l37 n38 n39 n40 l41 b42 l43 b44 l45 b46 l47 l48 b49 l50) [],.cells r []]) .ret) (.call (.at_ 25 1 (fw 14639) (TA l0 n1 n2) [] [.cells (tF ([109]++[UInt8.ofNat (u8.wrap (i64.wrap (48+n1))).toNat]) false o e f true []) [],.cells (nY n3 l4 l5 n6 n7 n8 l9 b10 l11 b12 l13 b14 l15 l16 b17 l18) [(11,5)],.cells (nY n19 l20 l21 n22 n23 n24 l25 b26 l27 b28 l29 b30 l31 l32 b33 l34) [],.cells (nY n35 l36 l37 n38 n39 n40 l41 b42 l43 b44 l45 b46 l47 l48 b49 l50) [],.cells r []]) .ret)))) (.ret (vl true [.g [.i .i64 n35,.s l36,.s l37,.i .i64 n38,.i .i64 n39,.i .u64 n40,.s l41,.l b42 l43,.l b44 l45,.l b46 l47,.s l48,.l b49 l50],.g [.i .i64 n19,.s l20,.s l21,.i .i64 n22,.i .i64 n23,.i .u64 n24,.s l25,.l b26 l27,.l b28 l29,.l b30 l31,.s l32,.l b33 l34],.g [.i .i64 n3,.s l4,.s l5,.i .i64 n6,.i .i64 n7,.i .u64 n8,.s l9,.l b10 l11,.l b12 l13,.l b14 l15,.s l16,.l b17 l18],.g [.i .i64 7,.s [87],.s [],.i .i64 0,.i .i64 0,.i .u64 0,.s [],.l true [],.l true [],.l true [],.s [86],.l true [.g [.s [111,119,110],.b false,.s [105,51,50],.l true [],.l true []]]]],[.cells l51 []]))):=bU
theorem I4(n0 n1:Int)(l2:mP)(b3:Bool)(n4 n5:Int)(l6 l7:mP)(n8 n9 n10:Int)(l11:mP)(b12:Bool)(l13:List D)(b14:Bool)(l15:List D)(b16:Bool)(l17:List D)(l18:mP)(b19:Bool)(l20:List D)(l21:List V):EQ bA (.at_ 26 1 (fw 3659) (O9 n0 n1) [] [.cells [vs l2,vb b3,vi n4] [],.cells (nY n5 l6 l7 n8 n9 n10 l11 b12 l13 b14 l15 b16 l17 l18 b19 l20) [(9,3)],.cells l21 []]) (aH (bw 3 l17) (aH (b16||true) (aH (decide (l17.length+1<=4294967296)) (.call (.at_ 26 1 (fw 43) (DW (i64.wrap (n0+1)) n1) [] [.cells (nY n5 l6 l7 n8 n9 n10 l11 b12 l13 b14 l15 (b16&&false) (l17++[.g [.s l2,.b b3,.i .i64 n4]]) l18 b19 l20) [(9,3)],.cells l21 []]) .ret)))):=bU
theorem MR(n0:Int)(l1 l2:mP)(n3 n4 n5:Int)(l6:mP)(b7:Bool)(l8:List D)(b9:Bool)(l10:List D)(b11:Bool)(l12:List D)(l13:mP)(b14:Bool)(l15:List D)(n16:Int)(l17 l18:mP)(n19 n20 n21:Int)(l22:mP)(b23:Bool)(l24:List D)(b25:Bool)(l26:List D)(b27:Bool)(l28:List D)(l29:mP)(b30:Bool)(l31:List D)(n32:Int)(l33 l34:mP)(n35 n36 n37:Int)(l38:mP)(b39:Bool)(l40:List D)(b41:Bool)(l42:List D)(XI:Bool)(l44:List D)(l45:mP)(b46:Bool)(l47:List D)(l48:List V):EQ bA (.at_ 26 1 (fw 127) Io [] [.cells (nY n0 l1 l2 n3 n4 n5 l6 b7 l8 b9 l10 b11 l12 l13 b14 l15) [],.cells (nY n16 l17 l18 n19 n20 n21 l22 b23 l24 b25 l26 b27 l28 l29 b30 l31) [],.cells (nY n32 l33 l34 n35 n36 n37 l38 b39 l40 b41 l42 XI l44 l45 b46 l47) [(9,3)],.cells l48 []]) (c1 (.call 53 [.p 0 0,vi 4,vs [],vb false] [.cells l48 []]) l48.length [] λ a c=>aL a λ e f=>c1 (.call 53 [.p 0 0,vi 3,vs [],vb true] [.cells c []]) c.length [] λ h j=>aL h λ k m => .ret (vl true [.g [.i .i64 n32,.s l33,.s l34,.i .i64 n35,.i .i64 n36,.i .u64 n37,.s l38,.l b39 l40,.l b41 l42,.l XI l44,.s l45,.l b46 l47],.g [.i .i64 n16,.s l17,.s l18,.i .i64 n19,.i .i64 n20,.i .u64 n21,.s l22,.l b23 l24,.l b25 l26,.l b27 l28,.s l29,.l b30 l31],.g [.i .i64 n0,.s l1,.s l2,.i .i64 n3,.i .i64 n4,.i .u64 n5,.s l6,.l b7 l8,.l b9 l10,.l b11 l12,.s l13,.l b14 l15],.g [.i .i64 4,.s [80],.s [],.i .i64 0,.i .i64 0,.i .u64 0,.s [],.l true [],.l e f,.l true [],.s [],.l true []],.g [.i .i64 5,.s [85],.s [],.i .i64 0,.i .i64 0,.i .u64 0,.s [],.l true [],.l k m,.l true [],.s [],.l true []]],[.cells j []])):=bU
theorem GC(l0:mP)(n1 n2:Int)(l3:mP)(b4:Bool)(l5:mP)(b6:Bool)(l7:List D)(b8:Bool)(l9:List D)(n10:Int)(l11 l12:mP)(n13 n14 n15:Int)(l16:mP)(b17:Bool)(l18:List D)(b19:Bool)(l20:List D)(b21:Bool)(l22:List D)(l23:mP)(b24:Bool)(l25:List D)(n26:Int)(l27 l28:mP)(n29 n30 n31:Int)(l32:mP)(b33:Bool)(l34:List D)(b35:Bool)(l36:List D)(b37:Bool)(l38:List D)(l39:mP)(b40:Bool)(l41:List D)(n42:Int)(l43 l44:mP)(n45 n46 n47:Int)(l48:mP)(b49:Bool)(l50:List D)(b51:Bool)(l52:List D)(b53:Bool)(l54:List D)(l55:mP)(b56:Bool)(l57:List D)(l58:List V):EQ bA (.at_ 25 1 (fw 14639) (TA l0 n1 n2) [] [.cells (tF l3 b4 l5 b6 l7 b8 l9) [],.cells (nY n10 l11 l12 n13 n14 n15 l16 b17 l18 b19 l20 b21 l22 l23 b24 l25) [(11,5)],.cells (nY n26 l27 l28 n29 n30 n31 l32 b33 l34 b35 l36 b37 l38 l39 b40 l41) [],.cells (nY n42 l43 l44 n45 n46 n47 l48 b49 l50 b51 l52 b53 l54 l55 b56 l57) [],.cells l58 []]) (aH (bw 5 l25) (aH (b24||true) (aH (decide (l25.length+1<=4294967296)) (.call (.at_ 25 1 (fw 175) (Ou l0 (i64.wrap (n1+1)) n2) [] [.cells (nY n10 l11 l12 n13 n14 n15 l16 b17 l18 b19 l20 b21 l22 l23 (b24&&false) (l25++[.g [.s l3,.b b4,.s l5,.l b6 l7,.l b8 l9]])) [(11,5)],.cells (nY n26 l27 l28 n29 n30 n31 l32 b33 l34 b35 l36 b37 l38 l39 b40 l41) [],.cells (nY n42 l43 l44 n45 n46 n47 l48 b49 l50 b51 l52 b53 l54 l55 b56 l57) [],.cells l58 []]) .ret)))):=bU
theorem uH{f:Task->Option Out}{t:Task}{b:Bool}{l:List D}{cs:List V}{fl fl':Fl}{m:Nat}{K:List V->Bool->List D->Tr}(h:f t=some (.d (.l b l),[.cells cs fl]))(hm:cs.length=m)(hf:(fl==fl')=true):
  aC f (.call t λ o=>ee o.snd λ x l2=>dx x λ c g=>aH (c.length==m) (aH (g==fl') (iK l2 (bm o.fst λ d=>fT d λ y z=>K c y z))))=aC f (K cs b l):=by
 rw[cp h];show aC f (aH (cs.length==m) (aH (fl==fl') (K cs b l)))=_;rw[hm,beq_self_eq_true,aN,hf,aN]
def nr(x:D):Prop:=∃(nm:mP) (h:Bool) (n:Int),x = .g [.s nm,.b h,.i .i64 n]/\nm.length<=1/\0<=n/\n<=1000
def pP(x:D):Prop:=∃(nm:mP) (ow:Bool) (ret:mP) (ab:Bool) (al:List D) (tb:Bool) (tl:List D),x = .g [.s nm,.b ow,.s ret,.l ab al,.l tb tl]/\nm.length<=3/\ret.length<=442/\al.length<=2/\tl.length<=1/\(∀y∈al,eN y)/\∀y∈tl,eN y
def KF(x:D):Prop:=∃(kd:Int) (nm ty:mP) (ck cn cu:Int) (cs:mP) (cb:Bool) (cl:List D) (fb:Bool) (fl:List D) (mb:Bool) (ml:List D) (ex:mP) (tb:Bool) (tl:List D),
 x = .g [.i .i64 kd,.s nm,.s ty,.i .i64 ck,.i .i64 cn,.i .u64 cu,.s cs,.l cb cl,.l fb fl,.l mb ml,.s ex,.l tb tl]/\1<=kd/\kd<=7/\nm.length<=1/\ty.length<=15/\
  0<=ck/\ck<=5/\(kd=3->1<=ck)/\-1000<=cn/\cn<=1000/\0<=cu/\cu<18446744073709551616/\cs.length<=1/\cl.length<=2/\(∀y∈cl,B1 y)/\
  fl.length<=5/\(∀y∈fl,eN y)/\ml.length<=3/\(∀y∈ml,nr y)/\ex.length<=1/\tl.length<=3/\(∀y∈tl,pP y)/\
  (kd=2->fl=[]/\tl=[]/\ex=[])/\(4<=kd/\kd<=6->ml=[]/\tl=[]/\ex=[])/\(kd=7->fl=[]/\ml=[])
abbrev ec(b:Bool)(ml:List D):Ob := .cells (nY 2 [69] [] 0 0 0 [] true [] true [] b ml [] true []) [(9,3)]
abbrev X5(ty:mP):Ob := .cells (nY 1 [84] ty 0 0 0 [] true [] true [] true [] [] true []) []
abbrev XV(ck cn:Int)(cs:mP)(cl:List D):Ob := .cells (nY 3 [67] [84] ck cn 0 cs true cl true [] true [] [] true []) []
def rV(zs:List Int)(t:Task):Prop:=∃(l:List D) (n':Nat),l.length=5/\(∀x∈l,KF x)/\Pk zs n'/\rk prog bA t=some (.d (.l true l),[pk zs n'])
theorem rV.of_eq{zs:List Int}{t t2:Task}(h:rV zs t2)(e:rk prog bA t=aC (rk prog bA) (Tr.call t2 Tr.ret)):rV zs t:=by obtain⟨l,n,h1,h2,h3,h4⟩:=h;exact⟨l,n,h1,h2,h3,by rw[e];exact aK h4⟩
theorem Qp{zs:List Int}{m:Nat}(hp:Pk zs m){ck cn:Int}{cs ty:mP}{cl:List D}{b:Bool}{ml:List D}(h1:1<=ck/\ck<=5)(h2:-1000<=cn/\cn<=1000)(h3:cs.length<=1)(h4:cl.length<=2)(h5:∀y∈cl,B1 y)(h6:ty.length<=15)(h7:ml.length<=3)(h8:∀y∈ml,nr y):
  rV zs (.at_ 26 1 (fw 127) Io [] [XV ck cn cs cl,X5 ty,ec b ml,pk zs m]):=by
 obtain⟨b1,l1,m1,p1,p2,p3,p4⟩:=kh hp 4 (most:=4) rfl (by omega) [] (by simp) false;obtain⟨b2,l2,m2,q1,q2,q3,q4⟩:=kh p3 3 (most:=3) rfl (by omega) [] (by simp) true;refine⟨_,m2,rfl,?_,q3,by rw[MR,uH (m:=(iN zs m).length) (fl':=[]) p4 rfl rfl,uH (m:=(iN zs m1).length) (fl':=[]) q4 rfl rfl];rfl⟩;intro x hx;simp only[List.mem_cons,List.not_mem_nil,or_false]at hx;rcases hx with rfl|rfl|rfl|rfl|rfl
 ·exact⟨2,_,_,0,0,0,_,_,_,_,_,_,_,_,_,_,rfl,by omega,by omega,by simp,by simp,by omega,by omega,by omega,by omega,by omega,by omega,by omega,by simp,by simp,by simp,by simp,by simp,h7,h8,by simp,by simp,by simp,λ _=>⟨rfl,rfl,rfl⟩,λ h=>by omega,λ h=>by omega⟩
 ·exact⟨1,_,_,0,0,0,_,_,_,_,_,_,_,_,_,_,rfl,by omega,by omega,by simp,h6,by omega,by omega,by omega,by omega,by omega,by omega,by omega,by simp,by simp,by simp,by simp,by simp,by simp,by simp,by simp,by simp,by simp,λ h=>by omega,λ h=>by omega,λ h=>by omega⟩
 ·exact⟨3,_,_,ck,cn,0,_,_,_,_,_,_,_,_,_,_,rfl,by omega,by omega,by simp,by simp,by omega,by omega,λ _=>h1.1,by omega,by omega,by omega,by omega,h3,h4,h5,by simp,by simp,by simp,by simp,by simp,by simp,by simp,λ h=>by omega,λ h=>by omega,λ h=>by omega⟩
 ·exact⟨4,_,_,0,0,0,_,_,_,_,_,_,_,_,_,_,rfl,by omega,by omega,by simp,by simp,by omega,by omega,by omega,by omega,by omega,by omega,by omega,by simp,by simp,by simp,p1,p2,by simp,by simp,by simp,by simp,by simp,λ h=>by omega,λ _=>⟨rfl,rfl,rfl⟩,λ h=>by omega⟩
 ·exact⟨5,_,_,0,0,0,_,_,_,_,_,_,_,_,_,_,rfl,by omega,by omega,by simp,by simp,by omega,by omega,by omega,by omega,by omega,by omega,by omega,by simp,by simp,by simp,q1,q2,by simp,by simp,by simp,by simp,by simp,λ h=>by omega,λ _=>⟨rfl,rfl,rfl⟩,λ h=>by omega⟩
abbrev Uo(i N:Int)(o1 o2:Ob):Task:=Task.at_ 26 1 (fw 43) (DW i N) [] [o1,o2]
theorem LQ{l:List D}(h:∀x∈l,nr x):bw 3 l=true:=by
 cases l with
 |nil=>rfl
 |cons x l=>
  obtain⟨_,_,_,rfl,_⟩:=h x (by simp);rfl
theorem UW{zs:List Int}{m:Nat}{nm:mP}{h:Bool}{n:Int}{b:Bool}{ml:List D}{i N:Nat}(hi:i<=5)(hl:ml.length<=5)(hm:∀y∈ml,nr y)
  (hg:rV zs (Uo ((i+1:Nat):Int) (N:Int) (ec (b&&false) (ml++[D.g [.s nm,.b h,.i .i64 n]])) (pk zs m))):
  rV zs (.at_ 26 1 (fw 3659) (O9 (i:Int) (N:Int)) []
   [Ob.cells [vs nm,vb h,vi n] [],ec b ml,pk zs m]):=by
 refine hg.of_eq ?_;have w1:=Wv i;rw[I4,LQ hm,aN,Bool.or_true,aN,aJ,w1]
theorem XI{zs:List Int}{N:Nat}(hN:N<=2):∀(j i:Nat) (b:Bool) (ml:List D) (m:Nat),i+j=N->ml.length=i+1->(∀y∈ml,nr y)->Pk zs m->rV zs (Uo (i:Int) (N:Int) (ec b ml) (pk zs m))
 |0,i,b,ml,m,e,hl,hm,hp=>by
  obtain⟨k,m2,hk,h2,hr2⟩:=gO hp (m:=4) 4 rfl (by omega) (by omega);have hx:∃ty:mP,([D.s [105,51,50],D.s [108,105,115,116,60,69,62],D.s [115,116,114,105,110,103],D.s [109,97,112,60,115,116,114,105,110,103,44,105,54,52,62]]:List D)[k]?=some (.s ty)/\ty.length<=15:=by
   rcases k with _|_|_|_|k
   all_goals first
    |(refine⟨_,rfl,?_⟩;simp;done)
    |omega
  obtain⟨ty,hty,hlen⟩:=hx;obtain⟨k3,m3,hk3,h3,hr3⟩:=gO h2 (m:=99) 99 rfl (by omega) (by omega);by_cases e1:ty=[105,51,50]
  ·refine(Qp h3 (ck:=1) (cn:=(k3:Int)) (cs:=[]) (ty:=ty) (cl:=[]) (b:=b) (ml:=ml) (by omega) (by omega) (by simp) (by simp) (by simp) hlen (by omega) hm).of_eq ?_
   rw[nj,bn,di (m:=(iN zs m).length) (fl':=[]) hr2 rfl rfl,rU hty,dz (beq_iff_eq.2 e1),di (m:=(iN zs m2).length) (fl':=[]) hr3 rfl rfl]
  ·by_cases e2:ty=[108,105,115,116,60,69,62]
   ·refine(Qp h2 (ck:=5) (cn:=0) (cs:=[]) (ty:=ty) (cl:=[D.g [D.i .i64 4,D.i .i64 0,D.i .u64 0,D.s [69,46,65],D.l true []],D.g [D.i .i64 1,D.i .i64 0,D.i .u64 0,D.s [],D.l true []]]) (b:=b) (ml:=ml) (by omega) (by omega) (by simp) (by simp) (λ y hy=>?_) hlen (by omega) hm).of_eq ?_
    ·simp only[List.mem_cons,List.not_mem_nil,or_false]at hy;rcases hy with rfl|rfl
     ·exact kE (by omega) (by omega) (by omega) (by simp)
     ·exact kE (by omega) (by omega) (by omega) (by simp)
    ·rw[nj,bn,di (m:=(iN zs m).length) (fl':=[]) hr2 rfl rfl,rU hty,cF (beq_eq_false_iff_ne.2 e1),dz (beq_iff_eq.2 e2)]
   ·by_cases e3:ty=[115,116,114,105,110,103]
    ·refine(Qp h2 (ck:=3) (cn:=0) (cs:=[99]) (ty:=ty) (cl:=[]) (b:=b) (ml:=ml) (by omega) (by omega) (by simp) (by simp) (by simp) hlen (by omega) hm).of_eq ?_
     rw[nj,bn,di (m:=(iN zs m).length) (fl':=[]) hr2 rfl rfl,rU hty,cF (beq_eq_false_iff_ne.2 e1),cF (beq_eq_false_iff_ne.2 e2),dz (beq_iff_eq.2 e3)]
    ·refine(Qp h2 (ck:=5) (cn:=0) (cs:=[]) (ty:=ty) (cl:=[]) (b:=b) (ml:=ml) (by omega) (by omega) (by simp) (by simp) (by simp) hlen (by omega) hm).of_eq ?_
     rw[nj,bn,di (m:=(iN zs m).length) (fl':=[]) hr2 rfl rfl,rU hty,cF (beq_eq_false_iff_ne.2 e1),cF (beq_eq_false_iff_ne.2 e2),cF (beq_eq_false_iff_ne.2 e3)]
 |j+1,i,b,ml,m,e,hl,hm,hp=>by
  obtain⟨k,m2,hk,h2,hr2⟩:=gO hp (m:=2) 2 rfl (by omega) (by omega);obtain⟨k3,m3,hk3,h3,hr3⟩:=gO h2 (m:=9) 9 rfl (by omega) (by omega);have w1:i64.wrap (10*(i:Int))=10*(i:Int):=U5;have w2:i64.wrap (5+10*(i:Int))=5+10*(i:Int):=U5;have w3:i64.wrap (5+10*(i:Int)+(k3:Int))=5+10*(i:Int)+(k3:Int):=U5
  have nx:∀(nm:mP) (h:Bool) (n:Int) (m':Nat),nm.length<=1->0<=n->n<=1000->Pk zs m'->rV zs (Uo ((i+1:Nat):Int) (N:Int) (ec (b&&false) (ml++[D.g [.s nm,.b h,.i .i64 n]])) (pk zs m')):=λ nm h n m' a1 a2 a3 hm'=>
   XI hN j (i+1) (b&&false) _ m' (by omega) (by simp[hl]) (λ y hy=>by
    rcases List.mem_append.1 hy with hy|hy
    ·exact hm y hy
    ·simp only[List.mem_singleton]at hy;subst hy;exact⟨_,_,_,rfl,a1,a2,a3⟩) hm'
  by_cases hk0:k=0
  ·refine(UW (b:=b) (ml:=ml) (by omega) (by omega) hm (nx [UInt8.ofNat (u8.wrap (i64.wrap (66+(i:Int)))).toNat] true (5+10*(i:Int)+(k3:Int)) m3 (by simp) (by omega) (by omega) h3)).of_eq ?_
   rw[nj,bz,di (m:=(iN zs m).length) (fl':=[]) hr2 rfl rfl,bK,di (m:=(iN zs m2).length) (fl':=[]) hr3 rfl rfl,w1,w2,w3]
  ·refine(UW (b:=b) (ml:=ml) (by omega) (by omega) hm (nx [UInt8.ofNat (u8.wrap (i64.wrap (66+(i:Int)))).toNat] false 0 m2 (by simp) (by omega) (by omega) h2)).of_eq ?_
   rw[nj,bz,di (m:=(iN zs m).length) (fl':=[]) hr2 rfl rfl,bu]
theorem qQ{zs:List Int}{n:Nat}(h:Pk zs n):rV zs (.call 26 [V.p 0 0] [pk zs n]):=by
 obtain⟨k,n1,hk,h1,hr⟩:=gO h (m:=3) 3 rfl (by omega) (by omega);refine(XI (N:=k) (by omega) k 0 true [D.g [D.s [65],D.b false,D.i .i64 0]] n1 (by omega) rfl (λ y hy=>?_) h1).of_eq ?_
 ·simp only[List.mem_singleton]at hy;subst hy;exact⟨_,_,_,rfl,by simp,by omega,by omega⟩
 ·rw[Yv,di (m:=2) (fl':=[]) hr rfl rfl];rfl
abbrev vc(b:Bool)(l:List D):Ob := .cells (nY 7 [86] [] 0 0 0 [] true [] true [] true [] [] b l) [(11,5)]
abbrev xc(b:Bool)(l:List D):Ob := .cells (nY 6 [88] [] 0 0 0 [] true [] b l true [] [] true []) []
abbrev qc(b:Bool)(l:List D):Ob := .cells (nY 4 [81] [] 0 0 0 [] true [] b l true [] [] true []) []
abbrev mc(nm:mP)(ow:Bool)(ret:mP)(ab:Bool)(al:List D)(tl:List D):Ob := .cells (tF nm ow ret ab al true tl) []
def uW(zs:List Int)(t:Task):Prop:=∃(l:List D) (n':Nat),l.length=4/\(∀x∈l,KF x)/\Pk zs n'/\rk prog bA t=some (.d (.l true l),[pk zs n'])
theorem uW.of_eq{zs:List Int}{t t2:Task}(h:uW zs t2)(e:rk prog bA t=aC (rk prog bA) (Tr.call t2 Tr.ret)):uW zs t:=by obtain⟨l,n,h1,h2,h3,h4⟩:=h;exact⟨l,n,h1,h2,h3,by rw[e];exact aK h4⟩
abbrev VG(s:mP)(i N:Int)(v x q o:Ob):Task:=Task.at_ 25 1 (fw 175) (Ou s i N) [] [v,x,q,o]
abbrev VE(s:mP)(i N:Int)(m v x q o:Ob):Task:=Task.at_ 25 1 (fw 14639) (TA s i N) [] [m,v,x,q,o]
theorem HQ{l:List D}(h:∀x∈l,pP x):bw 5 l=true:=by
 cases l with
 |nil=>rfl
 |cons x l=>
  obtain⟨_,_,_,_,_,_,_,rfl,_⟩:=h x (by simp);rfl
def VZ:D:=D.g [D.b true,D.i .i64 1,D.i .i64 0,D.s [88],D.s [120],D.b false,D.i .i64 0,D.i .i64 0,D.i .u64 0,D.s [],D.l true []]
theorem U6:eN VZ:=⟨true,1,0,[88],[120],false,0,0,0,[],rfl,by omega,by omega,by omega,by omega,by simp,by simp,by simp,by omega,by omega,by omega,by omega,by omega,by omega,by simp⟩
theorem X3{zs:List Int}{s:mP}{b bx bq:Bool}{l lx lq:List D}{i N m:Nat}(hi:i<=5)(hl:l.length<=5)(hm:∀y∈l,pP y){nm ret:mP}{ow ab:Bool}{al tl:List D}
  (hg:uW zs (VG s ((i+1:Nat):Int) (N:Int) (vc (b&&false) (l++[D.g [.s nm,.b ow,.s ret,.l ab al,.l true tl]])) (xc bx lx) (qc bq lq) (pk zs m))):
  uW zs (VE s (i:Int) (N:Int) (mc nm ow ret ab al tl) (vc b l) (xc bx lx) (qc bq lq) (pk zs m)):=by
 refine hg.of_eq ?_;have w1:=Wv i;rw[GC,HQ hm,aN,Bool.or_true,aN,aJ,w1]
theorem Vr{zs:List Int}{s:mP}(hs:s.length<=100){bx bq:Bool}{lx lq:List D}(hx:lx.length<=5/\∀y∈lx,eN y)(hq:lq.length<=5/\∀y∈lq,eN y){N:Nat}(hN:N<=3):
  ∀(j i:Nat) (b:Bool) (l:List D) (m:Nat),i+j=N->l.length=i->(∀y∈l,pP y)->Pk zs m->uW zs (VG s (i:Int) (N:Int) (vc b l) (xc bx lx) (qc bq lq) (pk zs m))
 |0,i,b,l,m,e,hl,hm,hp=>by
  refine⟨_,m,rfl,?_,hp,by rw[nh,bn];rfl⟩;intro x hx';simp only[List.mem_cons,List.not_mem_nil,or_false]at hx';rcases hx' with rfl|rfl|rfl|rfl
  ·exact⟨4,_,_,0,0,0,_,_,_,_,_,_,_,_,_,_,rfl,by omega,by omega,by simp,by simp,by omega,by omega,by omega,by omega,by omega,by omega,by omega,by simp,by simp,by simp,hq.1,hq.2,by simp,by simp,by simp,by simp,by simp,λ h=>by omega,λ _=>⟨rfl,rfl,rfl⟩,λ h=>by omega⟩
  ·exact⟨6,_,_,0,0,0,_,_,_,_,_,_,_,_,_,_,rfl,by omega,by omega,by simp,by simp,by omega,by omega,by omega,by omega,by omega,by omega,by omega,by simp,by simp,by simp,hx.1,hx.2,by simp,by simp,by simp,by simp,by simp,λ h=>by omega,λ _=>⟨rfl,rfl,rfl⟩,λ h=>by omega⟩
  ·exact⟨7,_,_,0,0,0,_,_,_,_,_,_,_,_,_,_,rfl,by omega,by omega,by simp,by simp,by omega,by omega,by omega,by omega,by omega,by omega,by omega,by simp,by simp,by simp,by simp,by simp,by simp,by simp,by simp,by omega,hm,λ h=>by omega,λ h=>by omega,λ _=>⟨rfl,rfl⟩⟩
  ·exact⟨7,_,_,0,0,0,_,_,_,_,_,_,_,_,_,_,rfl,by omega,by omega,by simp,by simp,by omega,by omega,by omega,by omega,by omega,by omega,by omega,by simp,by simp,by simp,by simp,by simp,by simp,by simp,by simp,by simp,λ y hy=>by
    simp only[List.mem_singleton]at hy;subst hy
    exact⟨_,_,_,_,_,_,_,rfl,by simp,by simp,by simp,by simp,by simp,by simp⟩,λ h=>by omega,λ h=>by omega,λ _=>⟨rfl,rfl⟩⟩
 |j+1,i,b,l,m,e,hl,hm,hp=>by
  obtain⟨ab,al,m1,a1,a2,h1,hr1⟩:=SM hp s hs;obtain⟨k,m2,hk,h2,hr2⟩:=gO h1 (m:=4) 4 rfl (by omega) (by omega);obtain⟨t,m3,ht,h3,hr3⟩:=PQ h2 s hs;obtain⟨k4,m4,hk4,h4,hr4⟩:=gO h3 (m:=2) 2 rfl (by omega) (by omega);have nx:∀(nm:mP) (ow:Bool) (ret:mP) (tl:List D) (m':Nat),nm.length<=3->ret.length<=442->tl.length<=1->(∀y∈tl,eN y)->Pk zs m'->
    uW zs (VE s (i:Int) (N:Int) (mc nm ow ret ab al tl) (vc b l) (xc bx lx) (qc bq lq) (pk zs m')):=λ nm ow ret tl m' q1 q2 q3 q4 hm'=>
   X3 (by omega) (by omega) hm (Vr hs hx hq hN j (i+1) (b&&false) _ m' (by omega) (by simp[hl]) (λ y hy=>by
    rcases List.mem_append.1 hy with hy|hy
    ·exact hm y hy
    ·simp only[List.mem_singleton]at hy;subst hy;exact⟨_,_,_,_,_,_,_,rfl,q1,q2,a1,q3,a2,q4⟩) hm')
  have hex:∀y∈[VZ],eN y:=λ y hy=>by simp only[List.mem_singleton]at hy;subst hy;exact U6
  by_cases e0:k=0
  ·refine(nx ([109]++[UInt8.ofNat (u8.wrap (i64.wrap (48+(i:Int)))).toNat]) true [118,111,105,100] [] m2 (by simp) (by simp) (by simp) (by simp) h2).of_eq ?_
   rw[nh,bz,uH (m:=(iN zs m).length) (fl':=[]) hr1 rfl rfl,di (m:=(iN zs m1).length) (fl':=[]) hr2 rfl rfl,bK]
  ·by_cases e1:k=1
   ·refine(nx ([109]++[UInt8.ofNat (u8.wrap (i64.wrap (48+(i:Int)))).toNat]) false [118,111,105,100] [VZ] m2 (by simp) (by simp) (by simp) hex h2).of_eq ?_
    rw[nh,bz,uH (m:=(iN zs m).length) (fl':=[]) hr1 rfl rfl,di (m:=(iN zs m1).length) (fl':=[]) hr2 rfl rfl,bu,bK];rfl
   ·by_cases e4:k4=0
    ·refine(nx ([109]++[UInt8.ofNat (u8.wrap (i64.wrap (48+(i:Int)))).toNat]) false t [VZ] m4 (by simp) ht (by simp) hex h4).of_eq ?_
     rw[nh,bz,uH (m:=(iN zs m).length) (fl':=[]) hr1 rfl rfl,di (m:=(iN zs m1).length) (fl':=[]) hr2 rfl rfl,bu,bu,jX (m:=(iN zs m2).length) (fl':=[]) hr3 rfl rfl,di (m:=(iN zs m3).length) (fl':=[]) hr4 rfl rfl,bK];rfl
    ·refine(nx ([109]++[UInt8.ofNat (u8.wrap (i64.wrap (48+(i:Int)))).toNat]) false t [] m4 (by simp) ht (by simp) (by simp) h4).of_eq ?_
     rw[nh,bz,uH (m:=(iN zs m).length) (fl':=[]) hr1 rfl rfl,di (m:=(iN zs m1).length) (fl':=[]) hr2 rfl rfl,bu,bu,jX (m:=(iN zs m2).length) (fl':=[]) hr3 rfl rfl,di (m:=(iN zs m3).length) (fl':=[]) hr4 rfl rfl,bu]
theorem O4{zs:List Int}{n:Nat}(h:Pk zs n)(s:mP)(hs:s.length<=100):uW zs (.call 25 [V.p 0 0,vs s] [pk zs n]):=by obtain⟨b1,l1,m1,p1,p2,h1,hr1⟩:=kh h 5 (most:=5) rfl (by omega) s hs false;obtain⟨b2,l2,m2,q1,q2,h2,hr2⟩:=kh h1 2 (most:=2) rfl (by omega) s hs false;obtain⟨k,m3,hk,h3,hr3⟩:=gO h2 (m:=4) 4 rfl (by omega) (by omega);refine(Vr hs (bx:=b2) (bq:=b1) ⟨q1,q2⟩ ⟨p1,p2⟩ (N:=k) (by omega) k 0 true [] m3 (by omega) rfl (by simp) h3).of_eq ?_;rw[Yu,uH (m:=2) (fl':=[]) hr1 rfl rfl,uH (m:=(iN zs m1).length) (fl':=[]) hr2 rfl rfl,di (m:=(iN zs m2).length) (fl':=[]) hr3 rfl rfl];rfl
def I9(x:D):Prop:=∃(il sl:List D) (b:Bool) (l:List D),x = .g [.l true il,.l true sl,.l b l]/\(il=[]/\sl=[]\/il=[.s [98,97,115,101]]/\sl=[.g [.s [103,111],.s [97,46,98]]])/\1<=l.length/\l.length<=9/\∀y∈l,KF y
theorem A4{l:List D}(h:∀x∈l,KF x):bw 12 l=true:=by
 cases l with
 |nil=>rfl
 |cons x l=>
  obtain⟨_,_,_,_,_,_,_,_,_,_,_,_,_,_,_,_,rfl,_⟩:=h x (by simp);rfl
theorem QQ{zs:List Int}{n:Nat}(h:Pk zs n):∃(x:D) (r:List D) (n':Nat),I9 x/\(∀y∈r,I9 y)/\r.length<=1/\Pk zs n'/\rk prog bA (.call 11 [V.p 0 0] [pk zs n])=some (.d (.l true (x::r)),[pk zs n']):=by
 obtain⟨k,m,hk,h1,hr⟩:=gO h (m:=3) 3 rfl (by omega) (by omega);by_cases e0:k=0
 ·obtain⟨l1,m1,p1,p2,h2,hr2⟩:=O4 h1 [98,97,115,101,46] (by simp)
  obtain⟨l2,m2,q1,q2,h3,hr3⟩:=qQ h2;refine⟨_,_,m2,⟨_,_,true,l1,rfl,.inr ⟨rfl,rfl⟩,by omega,by omega,p2⟩,λ y hy=>?_,?_,h3,by rw[XO,di (m:=2) (fl':=[]) hr rfl rfl,bK,uH (m:=(iN zs m).length) (fl':=[]) hr2 rfl rfl,uH (m:=(iN zs m1).length) (fl':=[]) hr3 rfl rfl];rfl⟩
  ·simp only[List.mem_singleton]at hy;subst hy;exact⟨_,_,true,l2,rfl,.inl ⟨rfl,rfl⟩,by omega,by omega,q2⟩
  ·simp
 ·obtain⟨l1,m1,p1,p2,h2,hr2⟩:=qQ h1;obtain⟨l2,m2,q1,q2,h3,hr3⟩:=O4 h2 [] (by simp);refine⟨D.g [D.l true [],D.l true [],D.l (true&&l2.isEmpty) (l1++l2)],[],m2,⟨_,_,_,l1++l2,rfl,.inl ⟨rfl,rfl⟩,by simp;omega,by simp;omega,λ y hy=>?_⟩,by simp,by simp,h3,?_⟩
  ·rcases List.mem_append.1 hy with hy|hy
   ·exact p2 y hy
   ·exact q2 y hy
  ·rw[XO,di (m:=2) (fl':=[]) hr rfl rfl,bu,uH (m:=(iN zs m).length) (fl':=[]) hr2 rfl rfl,uH (m:=(iN zs m1).length) (fl':=[]) hr3 rfl rfl,aN,A4 p2,aN,A4 q2,aN,Bool.true_or,aN,aJ];rfl
theorem f46(n:Int):EQ aF (.call 100 [vu n] []) ( Tr.call (.at_ 100 0 (fw 11) (sv 17 [(0,vu n),(3,vs [])]) [] []) Tr.ret):=bU
theorem f19(n:Int):EQ aF (.call 47 [vi n] []) ( aM (decide (n<0)) (Tr.call (.call 100 [vu (u64.wrap (u64.wrap (i64.wrap (0-i64.wrap (n+1)))+1))] []) λ o0=>aH o0.snd.isEmpty (bm o0.fst λ d1=>eF d1 λ l2=>aH (decide (1+l2.length<4611686018427387904)) (Tr.ret (vs ([45]++l2),[])))) (Tr.call (.call 100 [vu (u64.wrap n)] []) λ o3=>aH o3.snd.isEmpty (bm o3.fst λ d4=>eF d4 λ l5=>Tr.ret (vs l5,[])))):=bU
theorem NO(n0:Int)(l1:mP):EQ aF (.at_ 100 0 (fw 11) (sv 17 [(0,vu n0),(3,vs l1)]) [] []) ( aH (decide (1+l1.length<4611686018427387904)) (aM (u64.wrap (n0.tdiv 10)==0) (Tr.ret (vs ([UInt8.ofNat (u8.wrap (u64.wrap (48+n0.tmod 10))).toNat]++l1),[])) (Tr.call (.at_ 100 0 (fw 11) (sv 17 [(0,vu (u64.wrap (n0.tdiv 10))),(3,vs ([UInt8.ofNat (u8.wrap (u64.wrap (48+n0.tmod 10))).toNat]++l1))]) [] []) Tr.ret))):=bU
set_option exponentiation.threshold 5000000
def Cp(t:mP):Prop:=t=[]\/∃c r,t=c::r/\aG c=false
theorem Cp.take{t:mP}(h:Cp t):t.takeWhile aG=[]:=by
 rcases h with rfl|⟨c,r,rfl,h⟩
 ·rfl
 ·rw[List.takeWhile_cons,h];simp
theorem Cp.drop{t:mP}(h:Cp t):t.dropWhile aG=t:=by
 rcases h with rfl|⟨c,r,rfl,h⟩
 ·rfl
 ·rw[List.dropWhile_cons,h];simp
theorem BO:∀(k n:Nat) (l:mP),n<10^(k+1)->n<18446744073709551616->l.length+k<=1000->
  rk prog aF (.at_ 100 0 (fw 11) (sv 17 [(0,vu (n:Int)),(3,vs l)]) [] [])=some (.d (.s (cC n++l)),[])
 |k,n,l,h,h64,hl=>by
  rw[NO];have e1:(n:Int).tdiv 10=((n / 10:Nat):Int):=fG n 10;have e2:(n:Int).tmod 10=((n%10:Nat):Int):=kr n 10;have w1:u64.wrap ((n / 10:Nat):Int)=((n / 10:Nat):Int):=by rw[aT];omega
  have w2:u64.wrap (48+((n%10:Nat):Int))=((48+n%10:Nat):Int):=by rw[aT];omega
  have w3:u8.wrap ((48+n%10:Nat):Int)=((48+n%10:Nat):Int):=by rw[wrap_u8]<;>omega
  have hl1:1+l.length<4611686018427387904:=by omega
  simp only[e1,e2,w1,w2,w3,Int.toNat_natCast,aP,decide_eq_true hl1,if_true,aO,aD,aA];by_cases h9:n<10
  ·have:((n / 10:Nat):Int)==0:=by rw[beq_iff_eq];omega
   rw[if_pos this,jZ n,if_pos h9,Nat.mod_eq_of_lt h9]
  ·have:¬(((n / 10:Nat):Int)==0)=true:=by rw[beq_iff_eq];omega
   rw[if_neg this]
   cases k with
   |zero=>simp at h;omega
   |succ k=>
    rw[BO k (n / 10) _ (by rw[Nat.pow_succ]at h;omega) (by omega) (by simp;omega)];rw[jZ n,if_neg h9,List.append_assoc]
theorem IG(n:Nat)(h:n<18446744073709551616):rk prog aF (.call 100 [vu (n:Int)] [])=some (.d (.s (cC n)),[]):=by rw[f46];have:=BO 20 n [] (Nat.lt_trans h (by decide)) h (by decide);rw[List.append_nil]at this;simp only[aA,this]
theorem SE(n:Int)(h1:-9223372036854775808<=n)(h2:n<=9223372036854775807):rk prog aF (.call 47 [vi n] [])=some (.d (.s (cZ n)),[]):=by
 rw[f19];by_cases h:n<0
 ·have w1:i64.wrap (n+1)=n+1:=U5;have w2:i64.wrap (0-(n+1))=0-(n+1):=U5;have w:u64.wrap (u64.wrap (i64.wrap (0-i64.wrap (n+1)))+1)=(n.natAbs:Int):=by rw[w1,w2,aT,aT];omega
  have ht:=IG n.natAbs (by omega);have hl:=jl 20 n.natAbs (by decide) (by simp;omega);have hl1:1+(cC n.natAbs).length<4611686018427387904:=by omega
  simp only[aO,decide_eq_true h,if_true,w,aY,ht,Option.bind_some,List.isEmpty_nil,aP,bM,iE,decide_eq_true hl1,aD];unfold cZ;rw[if_pos h];rfl
 ·have w:u64.wrap n=(n.toNat:Int):=by rw[aT];omega
  have ht:=IG n.toNat (by omega);simp only[aO,decide_eq_false h,Bool.false_eq_true,if_false,w,aY,ht,Option.bind_some,List.isEmpty_nil,aP,if_true,bM,iE,aD];unfold cZ;rw[if_neg h]
theorem xh(x y:Nat)(h0:dy x y (-400)=false):∀k:Nat,dy x y (jn x y k)=false/\-400<=jn x y k/\jn x y k<=(k:Int)-400/\(jn x y k=(k:Int)-400\/dy x y (jn x y k+1)=true)
 |0=>⟨h0,by simp[jn],by simp[jn],Or.inl (by simp[jn])⟩
 |k+1=>by
  rw[jn];split
  ·rename_i h;obtain⟨h1,h2,h3,h4⟩:=xh x y h0 k;refine⟨h1,h2,by omega,Or.inr ?_⟩;rcases h4 with h4|h4
   ·rw[h4,show (k:Int)-400+1=((k+1:Nat):Int)-400 by omega];exact h
   ·exact h4
  ·rename_i h;exact⟨by simpa using h,by omega,by omega,Or.inl rfl⟩
theorem Nh:((List.range 1101).all λ d=>decide (2^(d+1)<=10^(d*30103 / 100000+2)))=true:=by decide +kernel
theorem Ng:((List.range 1101).all λ d=>decide (10^(d*30103 / 100000)*2<=2^d*100))=true:=by decide +kernel
theorem Iy(x y:Nat)(hy0:0<y)(hx:pQ x)(hy:pQ y):dy x y ((((bE x:Int)-bE y)*30103).tdiv 100000+2)=true:=by
 have lx:=hx.bE;have ly:=hy.bE;have bx:=nO x;have by_:=pS y (by omega);have py:=kS (n:=y) (by omega);rcases Int.le_total 0 ((bE x:Int)-bE y)with h|h
 ·obtain⟨d,hd⟩:∃d:Nat,(bE x:Int)-bE y=d:=⟨((bE x:Int)-bE y).toNat,by omega⟩
  rw[hd];have e:((d:Int)*30103).tdiv 100000+2=((d*30103 / 100000+2:Nat):Int):=by have:((d:Int)*30103).tdiv 100000=((d*30103 / 100000:Nat):Int):=fG (d*30103) 100000;rw[this];omega
  have hc:=List.all_eq_true.1 Nh d (List.mem_range.2 (by omega));rw[decide_eq_true_eq]at hc;rw[e];unfold dy;rw[UM,Int.toNat_natCast];generalize d*30103 / 100000+2=t at hc;have e2:2^bE x=2^(bE y-1)*2^(d+1):=by rw[<-Nat.pow_add];congr 1;omega
  have h3:=Nat.mul_le_mul by_ hc;exact decide_eq_true (by omega)
 ·obtain⟨d,hd⟩:∃d:Nat,(bE x:Int)-bE y = -(d:Int):=⟨((bE y:Int)-bE x).toNat,by omega⟩
  rw[hd];have e:(-(d:Int)*30103).tdiv 100000+2=2-((d*30103 / 100000:Nat):Int):=by have:((d:Int)*30103).tdiv 100000=((d*30103 / 100000:Nat):Int):=fG (d*30103) 100000;rw[Int.neg_mul,Int.neg_tdiv,this];omega
  rw[e];have hc:=List.all_eq_true.1 Ng d (List.mem_range.2 (by omega));rw[decide_eq_true_eq]at hc;generalize d*30103 / 100000=t at hc;have e2:2^bE x*2^d=2*2^(bE y-1):=by rw[<-Nat.pow_add,Nat.mul_comm 2,<-Nat.pow_succ];congr 1;omega
  have h3:x*2^d<2*y:=by have:=Nat.mul_lt_mul_of_pos_right bx (show 0<2^d from Nat.pow_pos (by decide));omega
  have h4:x*(10^t*2)<=x*(2^d*100):=Nat.mul_le_mul_left _ hc;have h5:x*(2^d*100)=x*2^d*100:=by rw[Nat.mul_assoc]
  have h6:x*(10^t*2)=x*10^t*2:=by rw[Nat.mul_assoc]
  unfold dy;by_cases ht:2-(t:Int)<0
  ·rw[if_pos ht,show (-(2-(t:Int))).toNat=t-2 by omega]
   have e3:10^t=10^(t-2)*100:=by rw[show (100:Nat)=10^2 from rfl,<-Nat.pow_add];congr 1;omega
   have e4:x*10^t=x*10^(t-2)*100:=by rw[e3,Nat.mul_assoc]
   exact decide_eq_true (by omega)
  ·rw[if_neg ht];have ht2:t<=2:=by omega
   have e3:100=10^(2-(t:Int)).toNat*10^t:=by rw[<-Nat.pow_add,show (2-(t:Int)).toNat+t=2 by omega]
   have e4:y*10^(2-(t:Int)).toNat*10^t=y*100:=by rw[Nat.mul_assoc,<-e3]
   have hp:0<10^t:=Nat.pow_pos (by decide);refine decide_eq_true (Nat.lt_of_mul_lt_mul_right (a:=10^t) ?_);omega
theorem qU(x y:Nat)(hx0:0<x)(hy0:0<y)(hx:pQ x)(hy:pQ y):∃n:Int,jn x y ((((bE x:Int)-bE y)*30103).tdiv 100000+401).toNat=n/\dy x y n=false/\dy x y (n+1)=true/\-400<=n/\n<=350:=by
 have lx:=hx.bE;have ly:=hy.bE;have hb:=pJ ((bE x:Int)-bE y) (by omega) (by omega);have hs:=Iy x y hy0 hx hy;obtain⟨h1,h2,h3,h4⟩:=xh x y (Of hx0 hy) ((((bE x:Int)-bE y)*30103).tdiv 100000+401).toNat;generalize (((bE x:Int)-bE y)*30103).tdiv 100000=z at *;refine⟨_,rfl,h1,?_,h2,by omega⟩;rcases h4 with h4|h4
 ·rw[h4,show (((z+401).toNat:Nat):Int)-400+1=z+2 by omega];exact hs
 ·exact h4
def mq(n:Int):Nat:=10^n.toNat
def lI(n:Int):Nat:=10^(-n).toNat
theorem qf(n:Int):0<mq n:=Nat.pow_pos (by decide)
theorem j9(n:Int):0<lI n:=Nat.pow_pos (by decide)
theorem lk(x y:Nat)(n:Int):cK x y n=dE (x*lI n) (y*mq n):=by
 unfold cK mq lI;split
 ·rename_i h;rw[show n.toNat=0 by omega,Nat.pow_zero,Nat.mul_one]
 ·rename_i h;rw[show (-n).toNat=0 by omega,Nat.pow_zero,Nat.mul_one]
theorem zX(x y:Nat)(n:Int):dy x y n=decide (x*lI n<y*mq n):=by
 unfold dy mq lI;split
 ·rename_i h;rw[show n.toNat=0 by omega,Nat.pow_zero,Nat.mul_one]
 ·rename_i h;rw[show (-n).toNat=0 by omega,Nat.pow_zero,Nat.mul_one]
theorem zg(n m:Int)(k:Nat)(h:n=m+k):mq n*lI m=10^k*(mq m*lI n):=by unfold mq lI;rw[<-Nat.pow_add,<-Nat.pow_add,<-Nat.pow_add];congr 1;omega
theorem kb(x y:Nat)(n m:Int)(k:Nat)(h:n=m+k):dy x y n=decide (x*lI m<y*mq m*10^k):=by
 rw[zX];have e:=zg n m k h;congr 1;apply propext;have a1:x*lI n*(mq m*lI m)=x*lI m*(mq m*lI n):=by ac_rfl
 have a2:y*mq n*(mq m*lI m)=y*mq m*10^k*(mq m*lI n):=by
  have:y*mq n*(mq m*lI m)=y*mq m*(mq n*lI m):=by ac_rfl
  rw[this,e,Nat.mul_assoc (y*mq m)]
 have p1:0<mq m*lI m:=Nat.mul_pos (qf _) (j9 _);have p2:0<mq m*lI n:=Nat.mul_pos (qf _) (j9 _);constructor
 ·intro h;have:=Nat.mul_lt_mul_of_pos_right h p1;rw[a1,a2]at this;exact Nat.lt_of_mul_lt_mul_right this
 ·intro h;have:=Nat.mul_lt_mul_of_pos_right h p2;rw[<-a1,<-a2]at this;exact Nat.lt_of_mul_lt_mul_right this
theorem gT:∀(k n:Nat),10^k<=n->n<10^(k+1)->(cC n).length=k+1
 |0,n,_,h=>by rw[jZ,if_pos (by simpa using h)];rfl
 |k+1,n,h1,h2=>by
  have h9:¬n<10:=by have:10^1<=10^(k+1):=Nat.pow_le_pow_right (by decide) (by omega);omega
  rw[jZ,if_neg h9,List.length_append,gT k (n / 10) (by rw[Nat.pow_succ]at h1;omega) (by rw[Nat.pow_succ]at h2;omega)];rfl
theorem tc{A B q:Nat}(hB:0<B)(hq:dE A B=q)(h1:10^16*B<=A)(h2:A<10^17*B):10^16<=q/\q<=10^17/\2*q*B<=2*A+B/\2*A<=2*q*B+B:=by
 have hu:=sL A B hB;have hl:=p7 A B hB;rw[hq]at hu hl;have e1:(2*q+1)*B=2*q*B+B:=by rw[Nat.add_mul,Nat.one_mul]
 rw[e1]at hu;refine⟨?_,?_,by omega,by omega⟩
 ·rcases Nat.lt_or_ge q (10^16)with h|h
  ·exfalso;have:(2*q+1)*B<=(2*10^16-1)*B:=Nat.mul_le_mul_right _ (by omega);have e2:(2*10^16-1)*B+B=2*(10^16*B):=by rw[<-Nat.succ_mul,<-Nat.mul_assoc]
   omega
  ·exact h
 ·rcases Nat.lt_or_ge (10^17) q with h|h
  ·exfalso;have:2*(10^17+1)*B<=2*q*B:=Nat.mul_le_mul_right _ (by omega);have e2:2*(10^17+1)*B=2*(10^17*B)+2*B:=by rw[Nat.mul_assoc,Nat.add_mul,Nat.one_mul,Nat.mul_add]
   omega
  ·exact h
theorem Vj(a b x s:Nat):a*(b*x)*s=a*(b*(x*s)):=by rw[Nat.mul_assoc,Nat.mul_assoc]
theorem Vi(a x s:Nat):a*x*s=a*(x*s):=Nat.mul_assoc _ _ _
theorem Vk(a x b s:Nat):a*x*(b*s)=a*(x*b*s):=by rw[Nat.mul_assoc,Nat.mul_assoc]
theorem yL{A B A' B' s s':Nat}(hB:0<B')(hs:0<s)(hs':0<s')(ha:A*s'=A'*s)(hb:B'*s=B*10*s')(h1:2*10^17*B<=2*A+B)(h2:A<10^17*B):dE A' B'=10^16:=by
 have hu:=sL A' B' hB;have hl:=p7 A' B' hB;have e1:(2*dE A' B'+1)*B'=2*dE A' B'*B'+B':=by rw[Nat.add_mul,Nat.one_mul]
 rw[e1]at hu;generalize dE A' B'=q at *;have k1:10*(2*10^16*B')<=10*(2*A')+B':=by
  have:=Nat.mul_le_mul_right (10*s') h1;have a1:2*10^17*B*(10*s')=10*(2*10^16*B')*s:=by rw[Vj,hb,Vk];generalize B*10*s'=z;omega
  have a2:(2*A+B)*(10*s')=(10*(2*A')+B')*s:=by rw[Nat.add_mul,Nat.add_mul,Vj,hb,Vk,<-Nat.mul_assoc B,<-ha,Nat.mul_right_comm A 10 s'];generalize B*10*s'=z;generalize A*s'=w;omega
  rw[a1,a2]at this;exact Nat.le_of_mul_le_mul_right this hs
 have k2:A'<10^16*B':=by
  have:=Nat.mul_lt_mul_of_pos_right h2 hs';have a1:10^17*B*s'=10^16*B'*s:=by rw[Vi,Vi,hb,Nat.mul_right_comm B 10 s'];generalize B*s'=z;omega
  rw[a1,ha]at this;exact Nat.lt_of_mul_lt_mul_right this
 refine Nat.le_antisymm ?_ ?_
 ·rcases Nat.lt_or_ge (10^16) q with h|h
  ·exfalso;have:2*(10^16+1)*B'<=2*q*B':=Nat.mul_le_mul_right _ (by omega);have e2:2*(10^16+1)*B'=2*(10^16*B')+2*B':=by rw[Nat.mul_assoc,Nat.add_mul,Nat.one_mul,Nat.mul_add]
   omega
  ·exact h
 ·rcases Nat.lt_or_ge q (10^16)with h|h
  ·exfalso;have:2*q*B'<=2*(10^16-1)*B':=Nat.mul_le_mul_right _ (by omega);have e2:2*(10^16-1)*B'+2*B'=2*10^16*B':=by rw[<-Nat.add_mul]
   omega
  ·exact h
theorem uF(b:Nat)(hb:b<2^64):(fY b).length<=1000:=by
 have put:∀(out:mP) (q:Nat) (n:Int),out.length<=1->-1000000<n->n<1000000->(k9 out (ff q) n).length<=1000:=by
  intro out q n ho h1 h2;have ht:=yU q;have hd:=kT h1 h2;have hr:(lg (ff q)).length<=20:=by
   unfold lg;split
   ·decide
   ·have:=BQ 48 ((ff q).drop 1);rw[List.length_drop]at this;omega
  unfold k9;simp only[List.length_append,List.length_take,List.length_singleton];omega
 unfold fY;split
 ·decide
 ·rename_i hk;have ho:(if 2^63<=b then [45] else([]:mP)).length<=1:=by split<;>decide
  simp only;split
  ·rw[List.length_append];have h5:([48,46,48,101,48]:mP).length=5:=rfl;omega
  ·rename_i h0;obtain⟨s1,s2,s3⟩:=sX (b%2^63) (by omega) (by omega);obtain⟨n,hn,-,-,n1,n2⟩:=qU (dL (b%2^63)).1 (dL (b%2^63)).2 (sW _ h0) s3 s1 s2;unfold pF;simp only[hn];split
   ·exact put _ _ _ ho (by omega) (by omega)
   ·exact put _ _ _ ho (by omega) (by omega)
theorem oY{α:Type}{l:List α}{f:α->mP}{B:Nat}(h:∀x∈l,(f x).length<=B):(l.map f).flatten.length<=l.length*B:=by
 induction l with
 |nil=>simp
 |cons x l ih=>
  have h1:=h x (by simp);have h2:=ih λ y hy=>h y (by simp[hy]);simp only[List.map_cons,List.flatten_cons,List.length_append,List.length_cons,Nat.add_mul,Nat.one_mul];omega
theorem ln{l:List mP}{B:Nat}(h:∀x∈l,x.length<=B):(Lib.join l [44,32]).length<=l.length*(B+2):=by
 cases l with
 |nil=>simp[Lib.join_nil]
 |cons x r=>
  rw[Lib.join_cons];have h1:=h x (by simp);have h2:(Lib.joinTail [44,32] r).length<=r.length*(B+2):=by unfold Lib.joinTail;refine oY λ y hy=>?_;have:=h y (by simp[hy]);simp only[List.length_append,List.length_cons,List.length_nil];omega
  rw[List.length_append,List.length_cons,Nat.add_mul,Nat.one_mul];omega
theorem uD(s:mP):(ia s).length=s.length+2:=by unfold ia;split<;>simp
theorem Nk{k n u:Int}{s:mP}{d:Nat}(hn:-1000<=n/\n<=1000)(hu:0<=u/\u<18446744073709551616)(hs:s.length<=103):WC (d+1) (cD k n u s true []):=
 ⟨k,n,u,s,true,[],rfl,⟨by omega,by omega⟩,hu,by omega,by simp,.inr (.inr rfl),by simp⟩
theorem Jh{k n u:Int}{s:mP}(hn:-1000<=n/\n<=1000)(hu:0<=u/\u<18446744073709551616)(hs:s.length<=103):(eA (D.g [D.i .i64 k,D.i .i64 n,D.i .u64 u,D.s s,D.l true []])).length<=1010:=by
 simp only[eA];split
 ·have:=kT (n:=n) (by omega) (by omega);omega
 ·split
  ·have:=uF u.toNat (by omega);omega
  ·split
   ·rw[uD];omega
   ·split
    ·omega
    ·split<;>simp[ko,cA,Lib.join_nil]
theorem QZ{x:D}{d:Nat}(h:B1 x):WC (d+1) x:=by obtain⟨k,n,u,s,rfl,_,_,h1,h2,h3,h4,h5⟩:=h;exact Nk ⟨h1,h2⟩ ⟨h3,h4⟩ h5
theorem QY{x:D}(h:B1 x):Kn x:=by obtain⟨k,n,u,s,rfl,h0,_⟩:=h;show k≠0;omega
theorem N5{x:D}(h:B1 x):(eA x).length<=1010:=by obtain⟨k,n,u,s,rfl,_,_,h1,h2,h3,h4,h5⟩:=h;exact Jh ⟨h1,h2⟩ ⟨h3,h4⟩ h5
theorem yc{x:D}(h:eN x):WF x:=by obtain⟨h,id,r,t,nm,hi,k,n,u,s,rfl,a1,a2,a3,a4,a5,a6,a7,a8,a9,b1,b2,b3,b4,b5⟩:=h;exact⟨h,id,r,t,nm,hi,k,n,u,s,true,[],rfl,⟨by omega,by omega⟩,by omega,by omega,λ h=>by have:=a7 h;omega,Nk ⟨b1,b2⟩ ⟨b3,b4⟩ b5⟩
theorem yb{x:D}(h:eN x):(yu x).length<=1600:=by
 obtain⟨h,id,r,t,nm,hi,k,n,u,s,rfl,a1,a2,a3,a4,a5,a6,a7,a8,a9,b1,b2,b3,b4,b5⟩:=h;have h1:=kT (n:=id) (by omega) (by omega);have h2:=Jh (k:=k) ⟨b1,b2⟩ ⟨b3,b4⟩ b5;simp only[yu,List.length_append];have e1:(if h=true then cZ id++[58,32]else []).length<=10:=by split<;>simp;omega
 have e2:(if r=1 then [114,101,113,117,105,114,101,100,32]else if r=2 then [111,112,116,105,111,110,97,108,32]else []:mP).length<=9:=by
  split
  ·simp
  ·split<;>simp
 have e3:(if hi=true then [32,61,32]++eA (.g [.i .i64 k,.i .i64 n,.i .u64 u,.s s,.l true []])else []:mP).length<=1013:=by
  split
  ·simp only[List.length_append,List.length_cons,List.length_nil];omega
  ·simp
 simp only[List.length_append,List.length_cons,List.length_nil]at *;omega
theorem LR{x:D}(h:nr x):WM x:=by obtain⟨nm,h,n,rfl,a1,a2,a3⟩:=h;exact⟨nm,h,n,rfl,by omega,by omega,by omega⟩
theorem E6{x:D}(h:nr x):(uB x).length<=20:=by
 obtain⟨nm,h,n,rfl,a1,a2,a3⟩:=h;have h1:=kT (n:=n) (by omega) (by omega);have e1:(if h=true then [32,61,32]++cZ n else []:mP).length<=11:=by split<;>simp;omega
 simp only[uB,List.length_append,List.length_cons,List.length_nil]at *;omega
theorem Fy{l:List D}{B:Nat}(h:∀x∈l,eN x)(hl:l.length<=B):(fC l).length<=B*1602:=by
 have:=ln (l:=l.map yu) (B:=1600) λ y hy=>by
  obtain⟨x,hx,rfl⟩:=List.mem_map.1 hy;exact yb (h x hx)
 rw[List.length_map]at this;exact Nat.le_trans this (Nat.mul_le_mul_right _ hl)
theorem LS{x:D}(h:pP x):KG x:=by obtain⟨nm,ow,ret,ab,al,tb,tl,rfl,a1,a2,a3,a4,a5,a6⟩:=h;exact⟨nm,ow,ret,ab,al,tb,tl,rfl,by omega,by omega,by omega,by omega,λ y hy=>yc (a5 y hy),λ y hy=>yc (a6 y hy)⟩
theorem E7{x:D}(h:pP x):(jh x).length<=6000:=by
 obtain⟨nm,ow,ret,ab,al,tb,tl,rfl,a1,a2,a3,a4,a5,a6⟩:=h;have h1:=Fy a5 a3;have h2:=Fy a6 a4;have e1:(if ow=true then [111,110,101,119,97,121,32]else []:mP).length<=7:=by split<;>simp
 have e2:(if tl=[]then []else [32,116,104,114,111,119,115,32,40]++fC tl++[41]:mP).length<=1700:=by
  split
  ·simp
  ·simp only[List.length_append,List.length_cons,List.length_nil];omega
 simp only[jh,List.length_append,List.length_cons,List.length_nil]at *;omega
theorem TM{x:D}(h:KF x):WD x:=by
 obtain⟨kd,nm,ty,ck,cn,cu,cs,cb,cl,fb,fl,mb,ml,ex,tb,tl,rfl,a1,a2,a3,a4,a5,a6,a7,a8,a9,b1,b2,b3,b4,b5,b6,b7,b8,b9,c1,c2,c3,c4,c5,c6⟩:=h
 exact⟨kd,nm,ty,ck,cn,cu,cs,cb,cl,fb,fl,mb,ml,ex,tb,tl,rfl,a1,a2,by omega,by omega,λ h=>by have:=a7 h;omega,⟨ck,cn,cu,cs,cb,cl,rfl,⟨by omega,by omega⟩,⟨b1,b2⟩,by omega,by omega,by omega,λ y hy=>⟨QZ (b5 y hy),QY (b5 y hy)⟩⟩,
  by omega,λ y hy=>yc (b7 y hy),by omega,λ y hy=>LR (b9 y hy),by omega,by omega,λ y hy=>LS (c3 y hy),c4,c5,c6⟩
theorem Ol{x:D}(h:KF x):(oE x).length<=20000:=by
 obtain⟨kd,nm,ty,ck,cn,cu,cs,cb,cl,fb,fl,mb,ml,ex,tb,tl,rfl,a1,a2,a3,a4,a5,a6,a7,a8,a9,b1,b2,b3,b4,b5,b6,b7,b8,b9,c1,c2,c3,c4,c5,c6⟩:=h;have hf:(fl.map wa).flatten.length<=5*1604:=Nat.le_trans (oY (B:=1604) λ y hy=>by
  have:=yb (b7 y hy)
  simp only[wa,List.length_append,List.length_cons,List.length_nil];omega) (Nat.mul_le_mul_right _ b6)
 have hm:(ml.map uB).flatten.length<=3*20:=Nat.le_trans (oY (B:=20) λ y hy=>E6 (b9 y hy)) (Nat.mul_le_mul_right _ b8);have ht:(tl.map jh).flatten.length<=3*6000:=Nat.le_trans (oY (B:=6000) λ y hy=>E7 (c3 y hy)) (Nat.mul_le_mul_right _ c2);have hcs:∀y∈ko cl,y.length<=1010:=by
  intro y hy;have e:∀l:List D,ko l=l.map eA:=by
   intro l
   induction l with
   |nil=>simp only[ko,List.map_nil]
   |cons a l ih=>simp only[ko,List.map_cons,ih]
  rw[e]at hy;obtain⟨z,hz,rfl⟩:=List.mem_map.1 hy;exact N5 (b5 z hz)
 have hc:(eA (D.g [D.i .i64 ck,D.i .i64 cn,D.i .u64 cu,D.s cs,D.l cb cl])).length<=5000:=by
  have e:∀l:List D,ko l=l.map eA:=by
   intro l
   induction l with
   |nil=>simp only[ko,List.map_nil]
   |cons a l ih=>simp only[ko,List.map_cons,ih]
  have hl:(ko cl).length<=2:=by rw[e,List.length_map];exact b4
  simp only[eA];split
  ·have:=kT (n:=cn) (by omega) (by omega);omega
  ·split
   ·have:=uF cu.toNat (by omega);omega
   ·split
    ·rw[uD];omega
    ·split
     ·omega
     ·split
      ·have:=ln hcs;have h2:=Nat.mul_le_mul_right (1010+2) hl;simp only[List.length_append,List.length_cons,List.length_nil];omega
      ·have hp:∀y∈cA (ko cl),y.length<=2022:=by
        intro y hy;have:∀(l:List mP),(∀y∈l,y.length<=1010)->∀y∈cA l,y.length<=2022:=by
         intro l
         induction l using cA.induct with
         |case1 a b r ih=>
          intro h y hy;simp only[cA,List.mem_cons]at hy;rcases hy with rfl|hy
          ·have h1:=h a (by simp)
           have h2:=h b (by simp);simp only[List.length_append,List.length_cons,List.length_nil];omega
          ·exact ih (λ z hz=>h z (by simp[hz])) y hy
         |case2 l hne=>
          intro h y hy;unfold cA at hy;split at hy
          ·exact(hne _ _ _ rfl).elim
          ·simp at hy
        exact this _ hcs y hy
       have hpl:(cA (ko cl)).length<=1:=by
        rcases e2:ko cl with _|⟨a,_|⟨b,_|⟨c,r⟩⟩⟩
        ·simp[cA]
        ·simp[cA]
        ·simp[cA]
        ·rw[e2]at hl;simp at hl
       have:=ln hp;have h2:=Nat.mul_le_mul_right (2022+2) hpl;simp only[List.length_append,List.length_cons,List.length_nil];omega
 have e1:(if ex=[]then []else [32,101,120,116,101,110,100,115,32]++ex:mP).length<=10:=by
  split
  ·simp
  ·simp only[List.length_append,List.length_cons,List.length_nil];omega
 have e2:(HH kd).length<=10:=by
  unfold HH;split
  ·simp
  ·split<;>simp
 simp only[oE];split
 ·simp only[List.length_append,List.length_cons,List.length_nil]at *;omega
 ·split
  ·simp only[List.length_append,List.length_cons,List.length_nil]at *;omega
  ·split
   ·simp only[List.length_append,List.length_cons,List.length_nil]at *;omega
   ·split
    ·simp only[List.length_append,List.length_cons,List.length_nil]at *;omega
    ·simp only[List.length_append,List.length_cons,List.length_nil]at *;omega
theorem Q5{x:D}(h:I9 x):Se x:=by
 obtain⟨il,sl,b,l,rfl,h1,h2,h3,h4⟩:=h;refine⟨true,il,true,sl,b,l,rfl,?_,?_,by omega,?_,?_,λ y hy=>TM (h4 y hy)⟩
 ·rcases h1 with⟨rfl,rfl⟩|⟨rfl,rfl⟩<;>simp
 ·rcases h1 with⟨rfl,rfl⟩|⟨rfl,rfl⟩<;>simp
 ·rcases h1 with⟨rfl,rfl⟩|⟨rfl,rfl⟩
  ·simp
  ·intro y hy;simp only[List.mem_singleton]at hy;subst hy;exact⟨_,rfl,by simp,by decide⟩
 ·rcases h1 with⟨rfl,rfl⟩|⟨rfl,rfl⟩
  ·simp
  ·intro y hy;simp only[List.mem_singleton]at hy;subst hy;exact⟨_,_,rfl,by simp,by simp⟩
theorem LN{x:D}(h:I9 x):(lG x).length<=200000:=by
 obtain⟨il,sl,b,l,rfl,h1,h2,h3,h4⟩:=h;have hd:(l.map oE).flatten.length<=9*20000:=Nat.le_trans (oY (B:=20000) λ y hy=>Ol (h4 y hy)) (Nat.mul_le_mul_right _ h3);simp only[lG,List.length_append];rcases h1 with⟨rfl,rfl⟩|⟨rfl,rfl⟩
 ·simp only[List.map_nil,List.flatten_nil,List.length_nil];omega
 ·simp only[List.map_cons,List.map_nil,List.flatten_cons,List.flatten_nil,CV,wG,List.length_append,List.length_cons,List.length_nil];omega
noncomputable abbrev RY(t:Task):Option Out:=rk prog bA t
theorem iW{k:Nat}{g:List V->List Ob->Option Out}(h:bA.ext k=some g)(args:List V)(S:List Ob):RY (.call k args S)=g args S:=by
 unfold RY;rw[Bu];unfold pG;simp only[h];rw[ca]
 cases g args S with
 |none=>rfl
 |some o=>rfl
theorem qn{f:Task->Option Out}{l:List D}{i:Nat}{x:D}{w:Nat}(h:l[i]?=some x)(hw:x.width=w){K:D->Tr}:
  aC f (ob (bJ l (i:Int)) λ d=>aH (d.width==w) (ob l[((i:Int)).toNat]? λ d1=>aH (decide (w<=d1.width)) (K d1)))=aC f (K x):=by
 subst hw;rw[bQ,aR h,beq_self_eq_true,aN,Int.toNat_natCast,aR h,aJ (Nat.le_refl _)]
theorem WN{α:Type}(p:List α)(x:α)(r:List α):(p++x::r)[p.length]?=some x:=by simp
theorem ir:∀l:List D,ko l=l.map eA
 | []=>by simp only[ko,List.map_nil]
 |a::l=>by simp only[ko,List.map_cons,ir l]
theorem vv(c:UInt8):∀s:mP,(cH [c] s).isSome=s.contains c
 | []=>by simp[cH]
 |a::s=>by
  unfold cH;by_cases h:c=a
  ·subst h;simp
  ·have:(List.isPrefixOf [c] (a::s))=false:=by simp[List.isPrefixOf,h]
   rw[this,if_neg (by decide),Option.isSome_map,vv c s];simp[h]
theorem IV(l:List mP):rR (l.map .s)=some l:=by
 induction l with
 |nil=>rfl
 |cons a l ih=>simp only[List.map_cons,rR,ih,Option.map_some]
theorem NU{l:List mP}{x:mP}(h:x∈l):x.length<=l.flatten.length:=by
 induction l with
 |nil=>simp at h
 |cons a l ih=>
  rw[List.flatten_cons,List.length_append];simp only[List.mem_cons]at h;rcases h with rfl|h
  ·omega
  ·have:=ih h;omega
theorem rM{l:List mP}{x sep:mP}(h:x∈l):x.length<=(Lib.join l sep).length:=by
 cases l with
 |nil=>simp at h
 |cons a l=>
  rw[Lib.join_cons,List.length_append];simp only[List.mem_cons]at h;rcases h with rfl|h
  ·omega
  ·have:(sep++x).length<=(Lib.joinTail sep l).length:=NU (List.mem_map.2 ⟨x,h,rfl⟩);rw[List.length_append]at this;omega
theorem Bf{B:Nat}:∀{l:List mP},l.length%2=0->(∀y∈cA l,y.length<=B)->∀x∈l,x.length<=B
 | [],_,_,x,hx=>by simp at hx
 | [a],h,_,_,_=>by simp at h
 |a::b::r,h,hp,x,hx=>by
  have h0:=hp (a++[58,32]++b) (by simp[cA]);simp only[List.length_append]at h0;simp only[List.mem_cons]at hx;rcases hx with rfl|rfl|hx
  ·omega
  ·omega
  ·exact Bf (l:=r) (by simp only[List.length_cons]at h;omega) (λ y hy=>hp y (by simp[cA,hy])) x hx
theorem Fq{k n u:Int}{s:mP}{b:Bool}{l:List D}(hk:k≠0)(hp:k=0\/(1<=k/\k<=5)\/l.length%2=0)(h5:¬(k=1\/k=2\/k=3\/k=4))(hl:(eA (cD k n u s b l)).length<=900000000):∀y∈l,(eA y).length<=900000000:=by
 intro y hy;simp only[cD,eA]at hl;rw[UM,UM,UM,UM]at hl;have hm:eA y∈ko l:=by rw[ir];exact List.mem_map.2 ⟨y,hy,rfl⟩
 split at hl
 ·have:=rM (sep:=[44,32]) hm;simp only[List.length_append]at hl;omega
 ·rename_i h;refine Bf (l:=ko l) (B:=900000000) (by rw[ir,List.length_map];omega) (λ z hz=>?_) _ hm;have:=rM (sep:=[44,32]) hz;simp only[List.length_append]at hl;omega
theorem JZ(s:mP)(hs:s.length<=2000):RY (.call 28 [vs s] [])=some (.d (.s (ia s)),[]):=by
 have h:RY (.call 57 [vs s,vs [34]] [])=some (.d (.b (s.contains 34)),[]):=by rw[iW (g:=gS) rfl];simp only[gS,if_pos (show s.length<=100000/\([34]:mP).length<=100000 from⟨by omega,by decide⟩),vv]
 rw[RY,Yx,dH h];unfold ia;by_cases hc:s.contains 34=true
 ·rw[dz hc,if_pos hc,aJ,aJ (by simp;omega)];rfl
 ·rw[cF (by simpa using hc),if_neg hc,aJ,aJ (by simp;omega)];rfl
theorem tD{d:Nat}{x:D}(h:WC d x):x.width=5:=by
 cases d with
 |zero=>exact h.elim
 |succ d=>obtain⟨_,_,_,_,_,_,rfl,_⟩:=h;rfl
def zU(k d:Nat):Prop:=∀x,WC d x->Kn x->(eA x).length<=900000000->RY (.call k [V.d x] [])=some (.d (.s (eA x)),[])
theorem NZ(l:List mP):bw 1 (l.map D.s)=true:=by cases l<;>rfl
theorem uX{d:Nat}(hC:zU 23 d):∀(r p:List D) (b b2:Bool),(∀y∈r,WC d y/\Kn y/\(eA y).length<=900000000)->(p++r).length<=100->
  ∃b',RY (.at_ 52 0 (fw 43) (sv 19 [(3,vl b ((p.map eA).map D.s)),(6,vl b2 (p++r)),(7,vi ((p++r).length:Int)),(8,vi (p.length:Int))]) [(3,1)] [])=some (.d (.l b' (((p++r).map eA).map D.s)),[])
 | [],p,b,b2,_,hl=>by
  refine⟨b,?_⟩;rw[List.append_nil,RY,GF,bn];rfl
 |x::r,p,b,b2,h,hl=>by
  obtain⟨h1,h2,h3⟩:=h x (by simp);have hc:=hC x h1 h2 h3;obtain⟨b',ih⟩:=uX hC r (p++[x]) (b&&false) b2 (λ y hy=>h y (by simp[hy])) (by simpa using hl);refine⟨b',?_⟩;have hlen:(p++x::r).length=p.length+(r.length+1):=by simp
  have w1:=Wv p.length;rw[RY,GF,bz];refine(qn (WN p x r) (tD h1)).trans ?_
  cases d with
  |zero=>exact h1.elim
  |succ d=>
   obtain⟨k,n,u,s,bb,l,rfl,_⟩:=h1;refine aN.trans ?_;refine(fh hc).trans ?_;rw[NZ,aN,Bool.or_true,aN,aJ (by simp;omega),w1];rw[List.append_assoc,List.singleton_append,show (p++[cD k n u s bb l]).length=p.length+1 by simp,List.map_append,List.map_append]at ih;exact aK ih
theorem Nj{d:Nat}(hC:zU 23 d)(b:Bool)(l:List D)(h:∀y∈l,WC d y/\Kn y/\(eA y).length<=900000000)(hl:l.length<=100):∃b',RY (.call 52 [vl b l] [])=some (.d (.l b' ((ko l).map D.s)),[]):=by obtain⟨b',h'⟩:=uX hC l [] true b h (by simpa using hl);refine⟨b',?_⟩;rw[RY,Yz,ir];exact aK h'
theorem Jz(b:Bool)(l:List mP)(t:mP)(hl:l.length<=100000)(ht:(Lib.join l t).length<=1000000000):RY (.call 51 [vl b (l.map D.s),vs t] [])=some (.d (.s (Lib.join l t)),[]):=by rw[iW (g:=sF) rfl];simp only[sF,IV,if_pos (show l.length<=100000/\(Lib.join l t).length<=1000000000 from⟨hl,ht⟩)]
theorem KE{f:Task->Option Out}{l:List D}{i:Nat}{s:mP}(h:l[i]?=some (.s s)){K:mP->Tr}:
  aC f (ob (bJ l (i:Int)) λ d=>aH (d.width==1) (ob l[((i:Int)).toNat]? λ d2=>ob d2.cells[0]? λ d3=>eF d3 K))=aC f (K s):=rU h
theorem yo(l:List mP)(hl:l.length<=1000)(hb:∀y∈l,y.length<=900000000)(hj:(Lib.join (cA l) [44,32]).length<=900000000)(b2:Bool):∀(r p:List mP) (o:List mP) (b:Bool),p++r=l->p.length%2=0->o++cA r=cA l->o.length<=p.length->
  RY (.at_ 23 0 (fw 175) (sv 63 [(3,vl b (o.map D.s)),(4,vl b2 (l.map D.s)),(5,vi (p.length:Int))]) [(3,1)] [])=some (.d (.s ([123]++Lib.join (cA l) [44,32]++[125])),[])
 |x::y::r,p,o,b,e,hp,ho,hop=>by
  have hlen:l.length=p.length+(r.length+2):=by rw[<-e];simp
  have hx:=hb x (by rw[<-e];simp);have hy:=hb y (by rw[<-e];simp);have w1:=Wv p.length;have w2:i64.wrap ((p.length:Int)+2)=((p.length+2:Nat):Int):=U5;have g1:(l.map D.s)[p.length]?=some (.s x):=by rw[<-e];simp
  have g2:(l.map D.s)[p.length+1]?=some (.s y):=by rw[<-e];simp
  have ih:=yo l hl hb hj b2 r (p++[x,y]) (o++[x++[58,32]++y]) (b&&false) (by rw[<-e];simp) (by simp;omega) (by rw[<-ho];simp[cA]) (by simp;omega);rw[List.length_append,List.length_cons,List.length_cons,List.length_nil,List.map_append]at ih;rw[RY,uS,w1,bz (by rw[List.length_map];omega),rU g1,aJ,rU g2,aJ (by simp;omega),NZ,aN,Bool.or_true,aN,aJ (by simp;omega),w2];exact aK ih
 | [x],p,o,b,e,hp,ho,hop=>by
  have hlen:l.length=p.length+1:=by rw[<-e];simp
  have w1:=Wv p.length;have ho':o=cA l:=by rw[<-ho];simp[cA]
  rw[RY,uS,w1,bn (by rw[List.length_map];omega)];rw[fh (Jz b o [44,32] (by omega) (by rw[ho'];omega)),aJ (by rw[ho'];omega),aJ (by rw[ho'];simp;omega),ho'];rfl
 | [],p,o,b,e,hp,ho,hop=>by
  have hlen:l.length=p.length:=by rw[<-e];simp
  have w1:=Wv p.length;have ho':o=cA l:=by rw[<-ho];simp[cA]
  rw[RY,uS,w1,bn (by rw[List.length_map];omega)];rw[fh (Jz b o [44,32] (by omega) (by rw[ho'];omega)),aJ (by rw[ho'];omega),aJ (by rw[ho'];simp;omega),ho'];rfl
theorem Tu(n:Int)(h:I8 n):RY (.call 49 [vi n,vi 10] [])=some (.d (.s (cZ n)),[]):=by rw[iW (g:=pY) rfl];exact if_pos (c:=(10:Int)=10/\-9223372036854775808<=n/\n<=9223372036854775807) ⟨rfl,h.1,h.2⟩
theorem Ui(n:Int)(h:I8 n):RY (.call 47 [vi n] [])=some (.d (.s (cZ n)),[]):=by rw[iW (g:=tu) rfl];simp only[tu,if_pos (show -9223372036854775808<=n/\n<=9223372036854775807 from⟨h.1,h.2⟩)]
theorem Vv(n:Int)(h:UO n):RY (.call 50 [vu n] [])=some (.d (.s (fY n.toNat)),[]):=by rw[iW (g:=kq) rfl];simp only[kq,if_pos (show 0<=n/\n<18446744073709551616 from⟨h.1,h.2⟩)]
theorem Tf(n:Int)(h:UO n):RY (.call 48 [vu n] [])=some (.d (.s (fY n.toNat)),[]):=by rw[iW (g:=kq) rfl];simp only[kq,if_pos (show 0<=n/\n<18446744073709551616 from⟨h.1,h.2⟩)]
theorem yp:∀d,zU 23 d
 |0=>λ x h=>h.elim
 |d+1=>λ x h hk hl=>by
  obtain⟨k,n,u,s,b,l,rfl,h1,h2,h3,h4,h5,h6⟩:=h;have hk:k≠0:=hk;have hle:=Fq hk h5 (l:=l) (n:=n) (u:=u) (s:=s) (b:=b);rw[RY,Yt];by_cases e1:k=1
  ·rw[bK e1,fh (Tu n h1)];simp only[eA,if_pos e1];rfl
  by_cases e2:k=2
  ·rw[bu e1,bK e2,fh (Vv u h2)];simp only[eA,if_neg e1,if_pos e2];rfl
  by_cases e3:k=3
  ·rw[bu e1,bu e2,bK e3,fh (JZ s h3)];simp only[eA,if_neg e1,if_neg e2,if_pos e3];rfl
  by_cases e4:k=4
  ·rw[bu e1,bu e2,bu e3,bK e4];simp only[eA,if_neg e1,if_neg e2,if_neg e3,if_pos e4];rfl
  have hle:=hle (by omega) hl;obtain⟨b',hc⟩:=Nj (yp d) b l (λ y hy=>⟨(h6 y hy).1,(h6 y hy).2,hle y hy⟩) h4;by_cases e5:k=5
  ·have hj:(Lib.join (ko l) [44,32]).length<=900000000:=by simp only[cD,eA,if_neg e1,if_neg e2,if_neg e3,if_neg e4,if_pos e5,List.length_append]at hl;omega
   rw[bu e1,bu e2,bu e3,bu e4,bK e5,eE hc,fh (Jz b' (ko l) [44,32] (by rw[ir,List.length_map];omega) (by omega)),aJ,aJ (by simp;omega)];simp only[eA,if_neg e1,if_neg e2,if_neg e3,if_neg e4,if_pos e5];rfl
  ·have hj:(Lib.join (cA (ko l)) [44,32]).length<=900000000:=by simp only[cD,eA,if_neg e1,if_neg e2,if_neg e3,if_neg e4,if_neg e5,List.length_append]at hl;omega
   rw[bu e1,bu e2,bu e3,bu e4,bu e5,eE hc];simp only[eA,if_neg e1,if_neg e2,if_neg e3,if_neg e4,if_neg e5];exact aK (yo (ko l) (by rw[ir,List.length_map];omega) (λ y hy=>by
    rw[ir]at hy;obtain⟨z,hz,rfl⟩:=List.mem_map.1 hy
    exact hle z hz) hj b' (ko l) [] [] true rfl rfl rfl (Nat.le_refl _))
theorem uj(p:List mP)(x sep:mP)(h:p≠[]):Lib.join (p++[x]) sep=Lib.join p sep++sep++x:=by
 cases p with
 |nil=>exact absurd rfl h
 |cons a p=>
  rw[List.cons_append,Lib.join_cons,Lib.join_cons];simp[Lib.joinTail,List.append_assoc]
theorem o8(p r:List mP)(sep:mP):(Lib.join p sep).length<=(Lib.join (p++r) sep).length:=by
 cases p with
 |nil=>rw[Lib.join_nil];exact Nat.zero_le _
 |cons a p=>
  rw[List.cons_append,Lib.join_cons,Lib.join_cons];simp only[Lib.joinTail,List.map_append,List.flatten_append,List.length_append];omega
abbrev cO(k n u:Int)(s:mP)(b:Bool)(l:List D):Ob:=Ob.cells (pd k n u s b l) []
theorem yD(k n u:Int)(s:mP)(b:Bool)(l:List D)(hs:s.length<=2000):∀(r p:mP),p++r=s->p.contains 34=false->
  RY (.at_ 22 0 (fw 10741) (Gh (p.length:Int)) [] [cO k n u s b l])=some (.d (.s (ia s)),[])
 | [],p,e,hp=>by
  rw[List.append_nil]at e;subst e;rw[RY,pM,bn,aJ,aJ (by simp;omega)];simp only[ia,hp,Bool.false_eq_true,if_false];rfl
 |c::r,p,e,hp=>by
  have hlen:s.length=p.length+(r.length+1):=by rw[<-e];simp
  have w1:=Wv p.length;have g:bJ s (p.length:Int)=some c:=by rw[bQ,<-e];simp
  by_cases hc:c=34
  ·rw[RY,pM,bz,aR g,bK (by rw[hc];rfl),aJ,aJ (by simp;omega)]
   have:s.contains 34=true:=by rw[<-e,hc];simp
   simp only[ia,this,if_true];rfl
  ·have h34:((c.toNat:Int))≠34:=λ h=>hc (UInt8.toNat_inj.1 (by simp;omega))
   rw[RY,pM,bz,aR g,bu h34,w1];have ih:=yD k n u s b l hs r (p++[c]) (by rw[<-e];simp) (by
    simp at hp⊢
    exact⟨hp,λ h=>hc h.symm⟩)
   rw[show (p++[c]).length=p.length+1 by simp]at ih;exact aK ih
theorem yz{d:Nat}(hC:zU 22 d)(k n u:Int)(s:mP)(b:Bool)(l:List D)(hl:l.length<=100)(h:∀y∈l,WC d y/\Kn y/\(eA y).length<=900000000)(hj:(Lib.join (l.map eA) [44,32]).length<=900000000):∀(r p:List D),p++r=l->
  RY (.at_ 22 0 (fw 352245) (AM ([91]++Lib.join (p.map eA) [44,32]) (p.length:Int)) [] [cO k n u s b l])=some (.d (.s ([91]++Lib.join (l.map eA) [44,32]++[93])),[])
 | [],p,e=>by
  rw[List.append_nil]at e;subst e;rw[RY,tI,bn,aJ (by simp;omega)];rfl
 |x::r,p,e=>by
  have hlen:l.length=p.length+(r.length+1):=by rw[<-e];simp
  have w1:=Wv p.length;obtain⟨h1,h2,h3⟩:=h x (by rw[<-e];simp);have hc:=hC x h1 h2 h3;have g:l[p.length]?=some x:=by rw[<-e];simp
  have hpre:=o8 ((p++[x]).map eA) (r.map eA) [44,32];rw[<-List.map_append,show (p++[x])++r=l by rw[<-e];simp]at hpre;have hpre0:=o8 (p.map eA) ((x::r).map eA) [44,32];rw[<-List.map_append,e]at hpre0;have ih:=yz hC k n u s b l hl h hj r (p++[x]) (by rw[<-e];simp);rw[show (p++[x]).length=p.length+1 by simp]at ih;have step:∀acc:mP,acc.length<=1000000000->acc++eA x=[91]++Lib.join ((p++[x]).map eA) [44,32]->
    RY (.at_ 22 0 (fw 13197301) (AM acc (p.length:Int)) [] [cO k n u s b l])=some (.d (.s ([91]++Lib.join (l.map eA) [44,32]++[93])),[]):=by
   intro acc ha hacc;rw[RY,zl];refine(qn g (tD h1)).trans ?_
   cases d with
   |zero=>exact h1.elim
   |succ d=>
    obtain⟨k',n',u',s',bb,l',rfl,_⟩:=h1;refine(fh hc).trans ?_;rw[aJ,hacc,w1];exact aK ih
  rw[RY,tI,bz];by_cases hp:p=[]
  ·subst hp;rw[bn (by simp)];refine aK (step _ (by simp[Lib.join_nil]) (by simp[Lib.join_one,Lib.join_nil]))
  ·have:0<p.length:=List.length_pos_iff.2 hp;rw[bz,aJ (by simp;omega)];refine aK (step _ (by simp;omega) ?_);rw[List.map_append,List.map_singleton,uj _ _ _ (by simpa using hp)];simp[List.append_assoc]
theorem Bv{d:Nat}(hC:zU 22 d)(k n u:Int)(s:mP)(b:Bool)(l:List D)(hl:l.length<=100)(h:∀y∈l,WC d y/\Kn y/\(eA y).length<=900000000)(hj:(Lib.join (cA (l.map eA)) [44,32]).length<=900000000):∀(r p:List D) (o:List mP),p++r=l->o++cA (r.map eA)=cA (l.map eA)->o.length*2=p.length->
  RY (.at_ 22 0 (fw 87) (AU ([123]++Lib.join o [44,32]) (p.length:Int)) [] [cO k n u s b l])=some (.d (.s ([123]++Lib.join (cA (l.map eA)) [44,32]++[125])),[])
 | [],p,o,e,ho,hop=>by
  have hlen:l.length=p.length:=by rw[<-e];simp
  have w1:=Wv p.length;have ho':o=cA (l.map eA):=by rw[<-ho];simp[cA]
  rw[RY,zm,w1,bn,ho',aJ (by simp;omega)];rfl
 | [x],p,o,e,ho,hop=>by
  have hlen:l.length=p.length+1:=by rw[<-e];simp
  have w1:=Wv p.length;have ho':o=cA (l.map eA):=by rw[<-ho];simp[cA]
  rw[RY,zm,w1,bn,ho',aJ (by simp;omega)];rfl
 |x::y::r,p,o,e,ho,hop=>by
  have hlen:l.length=p.length+(r.length+2):=by rw[<-e];simp
  have w1:=Wv p.length;have w2:i64.wrap ((p.length:Int)+2)=((p.length+2:Nat):Int):=U5;obtain⟨h1,h2,h3⟩:=h x (by rw[<-e];simp);obtain⟨i1,i2,i3⟩:=h y (by rw[<-e];simp);have hc:=hC x h1 h2 h3;have hd:=hC y i1 i2 i3;have g1:l[p.length]?=some x:=by rw[<-e];simp
  have g2:l[p.length+1]?=some y:=by rw[<-e];simp
  have ho2:(o++[eA x++[58,32]++eA y])++cA (r.map eA)=cA (l.map eA):=by rw[<-ho];simp[cA]
  have hpre:=o8 (o++[eA x++[58,32]++eA y]) (cA (r.map eA)) [44,32];rw[ho2]at hpre;have hpre0:=o8 o (cA ((x::y::r).map eA)) [44,32];rw[ho]at hpre0;have ih:=Bv hC k n u s b l hl h hj r (p++[x,y]) (o++[eA x++[58,32]++eA y]) (by rw[<-e];simp) ho2 (by simp;omega);rw[show (p++[x,y]).length=p.length+2 by simp]at ih;have step:∀acc:mP,acc.length<=1000000000->acc++eA x++[58,32]++eA y=[123]++Lib.join (o++[eA x++[58,32]++eA y]) [44,32]->
    RY (.at_ 22 0 (fw 3223) (AU acc (p.length:Int)) [] [cO k n u s b l])=some (.d (.s ([123]++Lib.join (cA (l.map eA)) [44,32]++[125])),[]):=by
   intro acc ha hacc;rw[RY,I3,w1,w2];refine(qn g1 (tD h1)).trans ?_
   cases d with
   |zero=>exact h1.elim
   |succ d=>
    obtain⟨k',n',u',s',bb,l',rfl,_⟩:=h1;refine(fh hc).trans ?_;rw[aJ,aJ (by simp;omega)];refine(qn g2 (tD i1)).trans ?_;obtain⟨k2,n2,u2,s2,bb2,l2,rfl,_⟩:=i1;refine(fh hd).trans ?_;rw[aJ (by simp;omega),hacc];exact aK ih
  rw[RY,zm,w1,bz];by_cases hp:o=[]
  ·subst hp;have:p.length=0:=by simpa using hop.symm
   rw[bn];refine aK (step _ (by simp[Lib.join_nil]) (by simp[Lib.join_one,Lib.join_nil,List.append_assoc]))
  ·have:0<o.length:=List.length_pos_iff.2 hp;rw[bz,aJ (by simp;omega)];refine aK (step _ (by simp;omega) ?_);rw[uj _ _ _ hp];simp[List.append_assoc]
theorem sZ:∀d,zU 22 d
 |0=>λ x h=>h.elim
 |d+1=>λ x h hk hl=>by
  obtain⟨k,n,u,s,b,l,rfl,h1,h2,h3,h4,h5,h6⟩:=h;have hk:k≠0:=hk;have hle:=Fq hk h5 (l:=l) (n:=n) (u:=u) (s:=s) (b:=b);rw[RY,Ys];by_cases e1:k=1
  ·rw[bK e1,fh (Ui n h1)];simp only[eA,if_pos e1];rfl
  by_cases e2:k=2
  ·rw[bu e1,bK e2,fh (Tf u h2)];simp only[eA,if_neg e1,if_pos e2];rfl
  by_cases e3:k=3
  ·rw[bu e1,bu e2,bK e3];simp only[eA,if_neg e1,if_neg e2,if_pos e3];exact aK (yD k n u s b l h3 s [] rfl rfl)
  by_cases e4:k=4
  ·rw[bu e1,bu e2,bu e3,bK e4];simp only[eA,if_neg e1,if_neg e2,if_neg e3,if_pos e4];rfl
  have hle:=hle (by omega) hl;have hy:∀y∈l,WC d y/\Kn y/\(eA y).length<=900000000:=λ y hy=>⟨(h6 y hy).1,(h6 y hy).2,hle y hy⟩
  by_cases e5:k=5
  ·have hj:(Lib.join (l.map eA) [44,32]).length<=900000000:=by simp only[cD,eA,if_neg e1,if_neg e2,if_neg e3,if_neg e4,if_pos e5,List.length_append,ir]at hl;omega
   rw[bu e1,bu e2,bu e3,bu e4,bK e5];simp only[eA,if_neg e1,if_neg e2,if_neg e3,if_neg e4,if_pos e5,ir];exact aK (yz (sZ d) k n u s b l h4 hy hj l [] rfl)
  ·have hj:(Lib.join (cA (l.map eA)) [44,32]).length<=900000000:=by simp only[cD,eA,if_neg e1,if_neg e2,if_neg e3,if_neg e4,if_neg e5,List.length_append,ir]at hl;omega
   rw[bu e1,bu e2,bu e3,bu e4,bu e5];simp only[eA,if_neg e1,if_neg e2,if_neg e3,if_neg e4,if_neg e5,ir];exact aK (Bv (sZ d) k n u s b l h4 hy hj l [] [] rfl rfl rfl)
def O1(r:Int):mP:=if r=1 then [114,101,113,117,105,114,101,100,32]else if r=2 then [111,112,116,105,111,110,97,108,32]else []
def Vg(h:Bool)(id:Int):mP:=if h=true then cZ id++[58,32]else []
def xV(hi:Bool)(c:D):mP:=if hi=true then [32,61,32]++eA c else []
theorem CU(h:Bool)(id r:Int)(t nm:mP)(hi:Bool)(k n u:Int)(s:mP)(b:Bool)(l:List D):yu (fD h id r t nm hi k n u s b l)=Vg h id++O1 r++t++[32]++nm++xV hi (cD k n u s b l):=rfl
theorem jQ{n:Int}(h:I8 n):(cZ n).length<=100:=by
  unfold cZ;obtain⟨h1,h2⟩:=h;split
  · rw [List.length_cons]
    have := jl 20 n.natAbs (by decide) (by have : n.natAbs ≤ 9223372036854775808 := by omega
                                           exact Nat.lt_of_le_of_lt this (by decide))
    omega
  · have := jl 20 n.toNat (by decide) (by have : n.toNat ≤ 9223372036854775808 := by omega
                                          exact Nat.lt_of_le_of_lt this (by decide))
    omega
abbrev fO(h:Bool)(id r:Int)(t nm:mP)(hi:Bool)(k n u:Int)(s:mP)(b:Bool)(l:List D):Ob:=
 Ob.cells (pT h id r t nm hi k n u s b l) []
section
variable (h : Bool) (id r : Int) (t nm : mP) (hi : Bool) (k n u : Int) (s : mP) (b : Bool) (l : List D) (ht : t.length ≤ 100000000) (hn : nm.length ≤ 2000) (hk : hi = true → k ≠ 0) (hw : WC uY (cD k n u s b l)) (hl : hi = true → (eA (cD k n u s b l)).length ≤ 900000000)
include ht hn hk hw hl
theorem WX(acc:mP)(ha:acc.length<=1000):RY (.at_ 59 0 (fw 31) (qT acc) [] [fO h id r t nm hi k n u s b l])=some (.d (.s (acc++t++[32]++nm++xV hi (cD k n u s b l))),[]):=by
 rw[RY,P7,aJ,aJ (by simp;omega),aJ (by simp;omega)]
 cases hi with
 |true=>
  have hl:=hl rfl;rw[bF];refine(fh (yp uY _ hw (hk rfl) hl)).trans ?_;rw[aJ,aJ (by simp at hl⊢;omega)];simp only[xV,if_true,aD,List.append_assoc]
 |false=>
  rw[bo];simp only[xV,Bool.false_eq_true,if_false,aD,List.append_assoc,List.append_nil]
theorem WW(acc:mP)(ha:acc.length<=900):RY (.at_ 59 0 (fw 15) (qT acc) [] [fO h id r t nm hi k n u s b l])=some (.d (.s (acc++O1 r++t++[32]++nm++xV hi (cD k n u s b l))),[]):=by
 have e:=λ acc ha=>WX h id r t nm hi k n u s b l ht hn hk hw hl acc ha;rw[RY,P6];unfold O1;by_cases h1:r=1
 ·rw[bK h1,if_pos h1,aJ];exact aK (e _ (by simp;omega))
 ·by_cases h2:r=2
  ·rw[bu h1,if_neg h1,bK h2,if_pos h2,aJ];exact aK (e _ (by simp;omega))
  ·rw[bu h1,if_neg h1,bu h2,if_neg h2,List.append_nil];exact aK (e _ (by omega))
theorem W8(acc:mP)(ha:acc.length<=1000):RY (.at_ 61 0 (fw 31) (qT acc) [] [fO h id r t nm hi k n u s b l])=some (.d (.s (acc++t++[32]++nm++xV hi (cD k n u s b l))),[]):=by
 rw[RY,Qa,aJ,aJ (by simp;omega),aJ (by simp;omega)]
 cases hi with
 |true=>
  have hl:=hl rfl;rw[bF,aJ (by simp;omega)];refine(fh (sZ uY _ hw (hk rfl) hl)).trans ?_;rw[aJ (by simp at hl⊢;omega)];simp only[xV,if_true,aD,List.append_assoc]
 |false=>
  rw[bo];simp only[xV,Bool.false_eq_true,if_false,aD,List.append_assoc,List.append_nil]
theorem W7(acc:mP)(ha:acc.length<=900):RY (.at_ 61 0 (fw 15) (qT acc) [] [fO h id r t nm hi k n u s b l])=some (.d (.s (acc++O1 r++t++[32]++nm++xV hi (cD k n u s b l))),[]):=by
 have e:=λ acc ha=>W8 h id r t nm hi k n u s b l ht hn hk hw hl acc ha;rw[RY,P9];unfold O1;by_cases h1:r=1
 ·rw[bK h1,if_pos h1,aJ];exact aK (e _ (by simp;omega))
 ·by_cases h2:r=2
  ·rw[bu h1,if_neg h1,bK h2,if_pos h2,aJ];exact aK (e _ (by simp;omega))
  ·rw[bu h1,if_neg h1,bu h2,if_neg h2,List.append_nil];exact aK (e _ (by omega))
end
def MX(k:Nat)(W:D->Prop)(pr:D->mP):Prop:=∀x,W x->(pr x).length<=900000000->RY (.call k [V.d x] [])=some (.d (.s (pr x)),[])
theorem Jv{hi:Bool}{c:D}{a:mP}(h:(a++xV hi c).length<=900000000):hi=true->(eA c).length<=900000000:=by rintro rfl;simp only[xV,if_true,List.length_append]at h;omega
theorem Ft:MX 59 WF yu:=by
 intro x hx hl;obtain⟨h,id,r,t,nm,hi,k,n,u,s,b,l,rfl,h1,h2,h3,h4,h5⟩:=hx;rw[CU]at hl⊢;have e:=λ acc ha=>WW h id r t nm hi k n u s b l h2 h3 h4 h5 (Jv hl) acc ha;rw[RY,YD]
 cases h with
 |true=>
  have:=jQ h1;rw[bF,fh (Tu id h1),aJ];refine(aK (e _ (by simp;omega))).trans ?_;simp only[Vg,if_true]
 |false=>
  rw[bo];refine(aK (e _ (by simp))).trans ?_;simp only[Vg,Bool.false_eq_true,if_false]
theorem FO:MX 61 WF yu:=by
 intro x hx hl;obtain⟨h,id,r,t,nm,hi,k,n,u,s,b,l,rfl,h1,h2,h3,h4,h5⟩:=hx;rw[CU]at hl⊢;have e:=λ acc ha=>W7 h id r t nm hi k n u s b l h2 h3 h4 h5 (Jv hl) acc ha;rw[RY,YE]
 cases h with
 |true=>
  have:=jQ h1;rw[bF,fh (Ui id h1),aJ];refine(aK (e _ (by simp;omega))).trans ?_;simp only[Vg,if_true]
 |false=>
  rw[bo];refine(aK (e _ (by simp))).trans ?_;simp only[Vg,Bool.false_eq_true,if_false]
theorem tE{x:D}(h:WF x):x.width=11:=by obtain⟨_,_,_,_,_,_,_,_,_,_,_,_,rfl,_⟩:=h;rfl
theorem EK{l:List D}(hl:(fC l).length<=900000000):∀y∈l,(yu y).length<=900000000:=λ y hy=>by
 have:=rM (sep:=[44,32]) (List.mem_map.2 ⟨y,hy,rfl⟩:yu y∈l.map yu);unfold fC at hl;omega
theorem Fv(l:List D)(hl:l.length<=100)(h:∀y∈l,WF y)(hj:(fC l).length<=900000000)(b2:Bool):∀(r p:List D) (b:Bool),p++r=l->
  RY (.at_ 124 0 (fw 43) (sv 20 [(3,vl b ((p.map yu).map D.s)),(6,vl b2 l),(7,vi (l.length:Int)),(8,vi (p.length:Int))]) [(3,1)] [])=some (.d (.s (fC l)),[])
 | [],p,b,e=>by
  rw[List.append_nil]at e;subst e;unfold fC at hj⊢;rw[RY,BX,bn,fh (Jz b (p.map yu) [44,32] (by rw[List.length_map];omega) (by omega))];rfl
 |x::r,p,b,e=>by
  have hlen:l.length=p.length+(r.length+1):=by rw[<-e];simp
  have w1:=Wv p.length;have hx:x∈l:=by rw[<-e];simp
  have hc:=Ft x (h x hx) (EK hj x hx);have hwd:=h x hx;have g:l[p.length]?=some x:=by rw[<-e];simp
  have ih:=Fv l hl h hj b2 r (p++[x]) (b&&false) (by rw[<-e];simp);rw[show (p++[x]).length=p.length+1 by simp,List.map_append,List.map_append]at ih;rw[RY,BX,bz];refine(qn g (tE hwd)).trans ?_;obtain⟨h,id,r,t,nm,hi,k,n,u,s,bb,l',rfl,_⟩:=hwd;refine aN.trans ?_;refine(fh hc).trans ?_;rw[NZ,aN,Bool.or_true,aN,aJ (by simp;omega),w1];exact aK ih
theorem Sy(b:Bool)(l:List D)(hl:l.length<=100)(h:∀y∈l,WF y)(hj:(fC l).length<=900000000):RY (.call 124 [vl b l] [])=some (.d (.s (fC l)),[]):=by rw[RY,XC];exact aK (Fv l hl h hj b l [] true rfl)
theorem FQ(l:List D)(hl:l.length<=100)(h:∀y∈l,WF y)(hj:(fC l).length<=900000000)(b2:Bool):∀(r p:List D),p++r=l->
  RY (.at_ 125 0 (fw 43) (BF b2 l (fC p) (p.length:Int)) [] [])=some (.d (.s (fC l)),[])
 | [],p,e=>by
  rw[List.append_nil]at e;subst e;rw[RY,BY,bn];rfl
 |x::r,p,e=>by
  have hlen:l.length=p.length+(r.length+1):=by rw[<-e];simp
  have w1:=Wv p.length;have hx:x∈l:=by rw[<-e];simp
  have hxl:=EK hj x hx;have hc:=FO x (h x hx) hxl;have hwd:=h x hx;have g:l[p.length]?=some x:=by rw[<-e];simp
  have hpre0:=o8 (p.map yu) ((x::r).map yu) [44,32];rw[<-List.map_append,e]at hpre0;have ih:=FQ l hl h hj b2 r (p++[x]) (by rw[<-e];simp);rw[show (p++[x]).length=p.length+1 by simp]at ih;have step:∀acc:mP,acc.length<=1000000000->acc++yu x=fC (p++[x])->
    RY (.at_ 125 0 (fw 1611) (BF b2 l acc (p.length:Int)) [] [])=some (.d (.s (fC l)),[]):=by
   intro acc ha hacc;rw[RY,Gz,w1];refine(qn g (tE hwd)).trans ?_;obtain⟨h,id,r,t,nm,hi,k,n,u,s,bb,l',rfl,_⟩:=hwd;refine(fh hc).trans ?_;rw[aJ,hacc];exact aK ih
  unfold fC at *;rw[RY,BY,bz];by_cases hp:p=[]
  ·subst hp;rw[bn (by simp)];refine aK (step _ (by simp[Lib.join_nil]) (by simp[Lib.join_one,Lib.join_nil]))
  ·have:0<p.length:=List.length_pos_iff.2 hp;rw[bz,aJ];refine aK (step _ (by simp;omega) ?_);rw[List.map_append,List.map_singleton,uj _ _ _ (by simpa using hp)]
theorem Sz(b:Bool)(l:List D)(hl:l.length<=100)(h:∀y∈l,WF y)(hj:(fC l).length<=900000000):RY (.call 125 [vl b l] [])=some (.d (.s (fC l)),[]):=by rw[RY,XD];exact aK (FQ l hl h hj b l [] rfl)
def T2(ow:Bool):mP:=if ow=true then [111,110,101,119,97,121,32]else []
def zR(tl:List D):mP:=if tl=[]then []else [32,116,104,114,111,119,115,32,40]++fC tl++[41]
theorem JY(nm:mP)(ow:Bool)(ret:mP)(ab:Bool)(al:List D)(tb:Bool)(tl:List D):jh (TN nm ow ret ab al tb tl)=[32,32]++T2 ow++ret++[32]++nm++[40]++fC al++[41]++zR tl++[44,10]:=rfl
theorem PD{tl:List D}{a c:mP}(h:(a++zR tl++c).length<=900000000):(fC tl).length<=900000000:=by
 by_cases ht:tl=[]
 ·subst ht;simp[fC,Lib.join_nil]
 ·simp only[zR,if_neg ht,List.length_append]at h;omega
theorem Mg:MX 62 KG jh:=by
 intro x hx hl;obtain⟨nm,ow,ret,ab,al,tb,tl,rfl,h1,h2,h3,h4,h5,h6⟩:=hx;rw[JY]at hl⊢;have ha:(fC al).length<=900000000:=by simp only[List.length_append]at hl;omega
 have ht:=PD hl;have c1:=Sz ab al h3 h5 ha;have c2:=Sz tb tl h4 h6 ht;have e:∀acc:mP,acc.length<=1000->RY (.at_ 62 0 (fw 15) (Hg acc) [] [Ob.cells (tF nm ow ret ab al tb tl) []])=
   some (.d (.s (acc++ret++[32]++nm++[40]++fC al++[41]++zR tl++[44,10])),[]):=by
  intro acc hacc;rw[RY,Qb,aJ,aJ (by simp;omega),aJ (by simp;omega),aJ (by simp;omega),fh c1,aJ (by simp;omega),aJ (by simp;omega)];by_cases h0:tl=[]
  ·subst h0;rw[bn (by simp)];refine(aK (o:=_) ?_);rw[RY,GI,aJ (by simp;omega)];simp only[zR,if_true,List.append_nil];rfl
  ·have:0<tl.length:=List.length_pos_iff.2 h0;rw[bz,aJ (by simp;omega),fh c2,aJ (by simp;omega),aJ (by simp;omega)];refine(aK (o:=_) ?_);rw[RY,GI,aJ (by simp;omega)];simp only[zR,if_neg h0,aD,List.append_assoc]
 rw[RY,YF]
 cases ow with
 |true=>rw[bF];exact aK (e _ (by simp))
 |false=>rw[bo];exact aK (e _ (by simp))
end Go.Dn.Dec
