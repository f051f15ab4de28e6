/- token: words as texts: a word's text is that word again. -/
import Derived.Test.YtbjllhjbhdjfjaaGreatDoorP6
import Derived.Test.YtbjllhjbhdjfjaaGreatDoorP8
import Derived.Test.YtbjllhjbhdjfjaaGreatDoorP9
import Derived.Test.YtbjllhjbhdjfjaaGreatDoorP4
import Derived.KernelRfl
set_option linter.unusedVariables false
set_option linter.unusedSimpArgs false
set_option linter.unusedSectionVars false
namespace Go.Dn.Dec
open Go.IntKind (i64 u64 u8 u16 i32 u32)
set_option exponentiation.threshold 5000000
def OG(w:aE):Prop:=(∃c q,w=c::q/\k9 c=true)/\(∀c∈w,fR c=true)/\w.length<=120/\w.getLast?≠some 46/\qU w=false
def Dl(r:aE):Prop:=r=[]\/∃c q,r=c::q/\fR c=false
theorem yZ{p:UInt8->Bool}:∀{w r:aE},(∀c∈w,p c=true)->(r=[]\/∃c q,r=c::q/\p c=false)->(w++r).takeWhile p=w
 | [],r,_,h=>by
  rcases h with rfl|⟨c,q,rfl,h⟩
  ·rfl
  ·rw[List.nil_append,List.takeWhile_cons,h];rfl
 |a::w,r,hw,h=>by
  rw[List.cons_append,List.takeWhile_cons,hw a (by simp),aaR rfl,yZ (λ c hc=>hw c (by simp[hc])) h]
theorem Ps{p:UInt8->Bool}:∀{w r:aE},(∀c∈w,p c=true)->(r=[]\/∃c q,r=c::q/\p c=false)->(w++r).dropWhile p=r
 | [],r,_,h=>by
  rcases h with rfl|⟨c,q,rfl,h⟩
  ·rfl
  ·rw[List.nil_append,List.dropWhile_cons,h];rfl
 |a::w,r,hw,h=>by
  rw[List.cons_append,List.dropWhile_cons,hw a (by simp),aaR rfl,Ps (λ c hc=>hw c (by simp[hc])) h]
theorem pK{c:UInt8}(h:fR c=false):k9 c=false/\aP c=false/\c≠46:=by simp only[fR,Bool.or_eq_false_iff,abr]at h;exact⟨h.1.1,h.1.2,h.2⟩
theorem JE{c:UInt8}(h:k9 c=false):c≠101/\c≠69/\c≠120:=by refine⟨?_,?_,?_⟩<;>rintro rfl<;>revert h<;>decide
theorem Dl.noDig{r:aE}(h:Dl r):wL r:=by
 rcases h with rfl|⟨c,q,rfl,h⟩
 ·exact .inl rfl
 ·exact .inr ⟨c,q,rfl,(pK h).2.1⟩
theorem Dl.frac{r:aE}(h:Dl r):gV r=0:=by
 rcases h with rfl|⟨c,q,rfl,h⟩
 ·rfl
 ·have:=(pK h).2.2;unfold gV;split
  ·rename_i heq;injection heq with e1 e2
   subst e1;rw[aaN (λ hh=>this hh.1)]
  ·rfl
theorem Dl.exp{r:aE}(h:Dl r):kR r=0:=by
 rcases h with rfl|⟨c,q,rfl,h⟩
 ·rfl
 ·have:=JE (pK h).1;simp only[kR];rw[aaN (by rintro(h|h);exact this.1 h;exact this.2.1 h)]
theorem zS{w r:aE}(h:Dl r)(a:Nat)(t:Tok):rm (w++r) w.length a t = .inl (t,w.length):=by
 unfold rm;rw[List.drop_left];rcases h with rfl|⟨c,q,rfl,h⟩
 ·rfl
 ·have:=pK h;simp only;rw[aaN (by rw[this.1,abr.2 this.2.2];decide)]
theorem HV{w r:aE}(hw:OG w)(hr:Dl r)(a:Nat):gp (w++r) a = .inl (⟨1,w,0,0,a⟩,w.length):=by obtain⟨⟨c,q,rfl,hc⟩,h2,h3,h4,h5⟩:=hw;have ht:((c::q)++r).takeWhile fR=c::q:=yZ h2 hr;rw[List.cons_append]at ht⊢;simp only[gp];rw[aaR hc];simp only[vB,ht];rw[cE,aaN (by rintro(h|h);exact h4 h;rw[h5]at h;cases h)]
theorem Fc{R r:aE}{k m a:Nat}{neg:Bool}{v:Int}(h1:gW R=k)(h2:R.drop k=cB m++r)(h3:¬(k=0/\R.head?=some 48/\(R.drop 1).head?=some 120/\((R.drop 2).takeWhile ke)≠[]))(hr:Dl r)
  (hneg:(R.head?==some 45)=neg) (hb:iM neg m=(v,true)) (hl:(cB m).length<=60) (hR:∃w,R=w++r/\w.length=k+(cB m).length):oS R a = .inl (⟨2,[],v,0,a⟩,k+(cB m).length):=by
 have td:(cB m++r).takeWhile aP=cB m:=yM _ _ (iR m) hr.noDig.take;have dr:(cB m++r).drop (cB m).length=r:=List.drop_left;unfold oS;simp only[h1,h2,td,uE];rw[aaN h3,aaN (λ h=>nQ m h.1)];simp only[dr,hr.frac,Nat.add_zero,hr.exp];rw[aaR ⟨trivial,trivial⟩];rw[hneg,hb,cE,aaN (by simp)];obtain⟨w,rfl,hw⟩:=hR;rw[<-hw];exact zS hr a _
theorem qm(n:Nat):∃d q,cB n=d::q/\aP d=true/\∀c∈q,aP c=true:=by
 have h:=iR n;have h2:=nQ n
 cases e:cB n with
 |nil=>exact absurd e h2
 |cons d q=>rw[e]at h;exact⟨d,q,rfl,h d (by simp),λ c hc=>h c (by simp[hc])⟩
theorem nR{d:UInt8}(h:aP d=true):d≠43/\d≠45/\d≠120/\k9 d=false/\d≠46/\zL d=false/\d≠35/\d≠47:=by
 rw[iD]at h;have hn:∀c:UInt8,(c.toNat<48\/57<c.toNat)->d≠c:=by rintro c hc rfl;omega
 refine⟨hn _ (by decide),hn _ (by decide),hn _ (by decide),?_,hn _ (by decide),?_,hn _ (by decide),hn _ (by decide)⟩
 ·have h95:(d==95)=false:=abr.2 (hn _ (by decide))
  simp only[k9,h95,Bool.false_or,Bool.or_eq_false_iff,Bool.and_eq_false_iff,decide_eq_false_iff_not];omega
 ·have e:∀c:UInt8,(c.toNat<48\/57<c.toNat)->(d==c)=false:=λ c hc=>abr.2 (hn c hc);simp only[zL,e 9 (by decide),e 10 (by decide),e 13 (by decide),e 32 (by decide),Bool.or_self]
theorem tT{c:UInt8}{q:aE}{a:Nat}(h:aP c=true\/c=45):gp (c::q) a=oS (c::q) a:=by
 have hl:k9 c=false:=by
  rcases h with h|rfl
  ·exact(nR h).2.2.2.1
  ·decide
 simp only[gp];rw[aaN (by rw[hl];decide),aaR (by rcases h with h|h;exact .inl h;exact .inr (.inr (.inl h)))]
theorem Jn{m:Nat}(h:m<10^20):(cB m).length<=20:=jD 20 m (by decide) h
theorem MU{n:Int}(h1:-9223372036854775808<=n)(h2:n<=9223372036854775807){r:aE}(hr:Dl r)(a:Nat):gp (cU n++r) a = .inl (⟨2,[],n,0,a⟩,(cU n).length):=by
 by_cases hn:n<0
 ·have hl:(cB n.natAbs).length<=20:=Jn (Nat.lt_of_le_of_lt (show n.natAbs<=9223372036854775808 by omega) (by decide))
  have e:cU n=45::cB n.natAbs:=by unfold cU;rw[aaR hn]
  rw[e,List.cons_append,tT (.inr rfl)]
  have:=Fc (R:=45::(cB n.natAbs++r)) (r:=r) (k:=1) (m:=n.natAbs) (a:=a) (neg:=true) (v:=n) rfl rfl (λ h=>by omega) hr rfl
   (by simp only[iM,if_true];congr 1;(focus omega);rw[decide_eq_true_eq];exact abI (show n.natAbs<=9223372036854775808 by omega) (by decide)) (by omega) ⟨45::cB n.natAbs,rfl,by simp;omega⟩
  rw[this,aaT,Nat.add_comm]
 ·have hl:(cB n.toNat).length<=20:=Jn (Nat.lt_of_le_of_lt (show n.toNat<=9223372036854775807 by omega) (by decide))
  have e:cU n=cB n.toNat:=by unfold cU;rw[aaN hn]
  obtain⟨d,q,hd,d1,d2⟩:=qm n.toNat;have hx:=nR d1;have hs:gW (cB n.toNat++r)=0:=by rw[hd,List.cons_append];simp only[gW];rw[aaN (by rintro(h|h);exact hx.1 h;exact hx.2.1 h)]
  have h3:((cB n.toNat++r).drop 1).head?≠some 120:=by
   rw[hd,List.cons_append,List.drop_succ_cons,List.drop_zero]
   cases q with
   |nil=>
    rcases hr with rfl|⟨c,s,rfl,hc⟩
    ·simp
    ·intro h;simp at h;exact(JE (pK hc).1).2.2 h
   |cons x q=>
    intro h;simp at h;exact(nR (d2 x (by simp))).2.2.1 h
  have hh:((cB n.toNat++r).head?==some 45)=false:=by rw[hd];simp;exact hx.2.1
  have:=Fc (R:=cB n.toNat++r) (r:=r) (k:=0) (m:=n.toNat) (a:=a) (neg:=false) (v:=n) hs rfl (λ h=>h3 h.2.2.1) hr hh
   (by simp only[iM,Bool.false_eq_true,if_false];congr 1;(focus omega);rw[decide_eq_true_eq];exact Nat.lt_of_le_of_lt (show n.toNat<=9223372036854775807 by omega) (by decide)) (by omega) ⟨cB n.toNat,rfl,by simp⟩
  rw[e];have hw:gp (cB n.toNat++r) a=oS (cB n.toNat++r) a:=by rw[hd,List.cons_append];exact tT (.inl d1)
  rw[hw,this,abv]
theorem QW(d:aE)(hd:∀c∈d,aP c=true):lO d≠[]/\∀c∈lO d,aP c=true:=by
 have hsub:∀c∈trimRightB 48 (d.drop 1),aP c=true:=λ c hc=>by
  obtain⟨j,hj⟩:=yX (d.drop 1);have:c∈d.drop 1:=by rw[hj];exact List.mem_append_left _ hc
  exact hd c (List.mem_of_mem_drop this)
 unfold lO;split
 ·refine⟨by simp,λ c hc=>?_⟩
  simp only[abK]at hc;subst hc;decide
 ·exact⟨by assumption,hsub⟩
theorem Bl(sg:aE)(q:Nat)(n:Int):∃(dg:UInt8) (p:aE),aP dg=true/\p≠[]/\(∀c∈p,aP c=true)/\lL sg (fK q) n=sg++([dg]++([46]++(p++([101]++cU n)))):=by
 obtain⟨d,r,hd,d1,d2⟩:=qm (q%18446744073709551616);obtain⟨r1,r2⟩:=QW (fK q) (iR _);refine⟨d,lO (fK q),d1,r1,r2,?_⟩;unfold lL;have:(fK q).take 1=[d]:=by unfold fK;rw[hd];rfl
 rw[this];simp only[abg]
theorem yB(b:Nat)(hk:b / 2^52%2048≠2047):∃(sg:aE) (dg:UInt8) (p:aE) (n:Int),(sg=[]\/sg=[45])/\aP dg=true/\p≠[]/\(∀c∈p,aP c=true)/\gE b=sg++([dg]++([46]++(p++([101]++cU n)))):=by
 unfold gE;rw[aaN hk];have hs:∃sg:aE,(if 2^63<=b then [45] else([]:aE))=sg/\(sg=[]\/sg=[45]):=by
  by_cases h:2^63<=b
  ·exact⟨[45],aaR h,.inr rfl⟩
  ·exact⟨[],aaN h,.inl rfl⟩
 obtain⟨sg,e,hsg⟩:=hs;simp only[e];by_cases h0:b%2^63=0
 ·rw[aaR h0];refine⟨sg,48,[48],0,hsg,by decide,by simp,λ c hc=>?_,by simp[show cU 0=[48]from rfl]⟩;simp only[abK]at hc;subst hc;decide
 ·rw[aaN h0];unfold p7;simp only;split
  ·obtain⟨dg,p,h1,h2,h3,h4⟩:=Bl sg (cI (dX (b%2^63)).1 (dX (b%2^63)).2 (jE (dX (b%2^63)).1 (dX (b%2^63)).2 ((((bJ (dX (b%2^63)).1:Int)-bJ (dX (b%2^63)).2)*30103).tdiv 100000+401).toNat+1-16)) (jE (dX (b%2^63)).1 (dX (b%2^63)).2 ((((bJ (dX (b%2^63)).1:Int)-bJ (dX (b%2^63)).2)*30103).tdiv 100000+401).toNat+1);exact⟨sg,dg,p,_,hsg,h1,h2,h3,h4⟩
  ·obtain⟨dg,p,h1,h2,h3,h4⟩:=Bl sg (cI (dX (b%2^63)).1 (dX (b%2^63)).2 (jE (dX (b%2^63)).1 (dX (b%2^63)).2 ((((bJ (dX (b%2^63)).1:Int)-bJ (dX (b%2^63)).2)*30103).tdiv 100000+401).toNat-16)) (jE (dX (b%2^63)).1 (dX (b%2^63)).2 ((((bJ (dX (b%2^63)).1:Int)-bJ (dX (b%2^63)).2)*30103).tdiv 100000+401).toNat);exact⟨sg,dg,p,_,hsg,h1,h2,h3,h4⟩
theorem MA(n:Int){r:aE}(hr:Dl r):kR ([101]++cU n++r)=([101]++cU n).length:=by
 rw[abg,List.singleton_append];simp only[kR];rw[aaR (by simp)];by_cases hn:n<0
 ·have e:cU n=45::cB n.natAbs:=by unfold cU;rw[aaR hn]
  rw[e,List.cons_append];have hk:na (45::(cB n.natAbs++r))=2:=rfl;have hd:(101::45::(cB n.natAbs++r)).drop 2=cB n.natAbs++r:=rfl;rw[hk,hd,yM _ _ (iR _) hr.noDig.take,aaN (nQ _)];simp;omega
 ·have e:cU n=cB n.toNat:=by unfold cU;rw[aaN hn]
  obtain⟨d,q,hd,d1,d2⟩:=qm n.toNat;have hx:=nR d1;have hk:na (cB n.toNat++r)=1:=by rw[hd,List.cons_append];simp only[na];rw[aaN (by rintro(h|h);exact hx.1 h;exact hx.2.1 h)]
  have hdr:(101::(cB n.toNat++r)).drop 1=cB n.toNat++r:=rfl;rw[e,hk,hdr,yM _ _ (iR _) hr.noDig.take,aaN (nQ _)];simp;omega
theorem Mr{b:Nat}(hb:b<2^64)(hk:b / 2^52%2048≠2047){r:aE}(hr:Dl r)(a:Nat):gp (gE b++r) a = .inl (⟨3,[],0,b,a⟩,(gE b).length):=by
 obtain⟨sg,dg,p,n,hsg,h1,h2,h3,e⟩:=yB b hk;have hp:=Ib b hb hk;have hx:=nR h1;have key:∀R:aE,R=gE b++r->gW R=sg.length->¬(sg.length=0/\R.head?=some 48/\(R.drop 1).head?=some 120/\((R.drop 2).takeWhile ke)≠[])->oS R a = .inl (⟨3,[],0,b,a⟩,(gE b).length):=by
  intro R hR hs h0;have hu:R.drop sg.length=[dg]++([46]++(p++([101]++cU n++r))):=by rw[hR,e,abg,List.drop_left];simp only[abg]
  have t1:([dg]++([46]++(p++([101]++cU n++r)))).takeWhile aP=[dg]:=yZ (λ c hc=>by simp only[abK]at hc;subst hc;exact h1) (.inr ⟨46,_,rfl,by decide⟩);have t2:gV ([46]++(p++([101]++cU n++r)))=1+p.length:=by
   cases p with
   |nil=>exact absurd rfl h2
   |cons x p=>
    have:((x::p)++([101]++cU n++r)).takeWhile aP=x::p:=yZ h3 (.inr ⟨101,_,rfl,by decide⟩);have e:[46]++((x::p)++([101]++cU n++r))=46::x::(p++([101]++cU n++r)):=by simp
    have e2:(x::p)++([101]++cU n++r)=x::(p++([101]++cU n++r)):=by simp
    rw[e2]at this;rw[e];simp only[gV];rw[aaR ⟨trivial,h3 x (by simp)⟩,this]
  have t3:([dg]++([46]++(p++([101]++cU n++r)))).drop (1+(1+p.length))=[101]++cU n++r:=by rw[show [dg]++([46]++(p++([101]++cU n++r)))=([dg]++([46]++p))++([101]++cU n++r) by simp,show 1+(1+p.length)=([dg]++([46]++p)).length by simp;omega,List.drop_left]
  have t4:=MA n hr;have hlen:(gE b).length=sg.length+(1+(1+p.length+([101]++cU n).length)):=by rw[e];simp;omega
  unfold oS;simp only[hs,hu,t1];rw[aaN h0,aaN (λ h=>by cases h.1)];have d1:([dg]++([46]++(p++([101]++cU n++r)))).drop 1=[46]++(p++([101]++cU n++r)):=rfl;simp only[List.length_singleton,d1,t2,t3,t4];rw[cE,<-hlen];have tk:R.take (gE b).length=gE b:=by rw[hR,List.take_left]
  rw[tk,hp,aaN (by simp),hR];exact zS hr a _
 rcases hsg with rfl|rfl
 ·have hR:gE b++r=dg::([46]++(p++([101]++cU n++r))):=by rw[e];simp
  rw[hR,tT (.inl h1)];refine key _ hR.symm ?_ (λ h=>?_)
  ·simp only[gW];rw[aaN (by rintro(h|h);exact hx.1 h;exact hx.2.1 h)];rfl
  ·have:=h.2.2.1;simp at this
 ·have hR:gE b++r=45::(dg::([46]++(p++([101]++cU n++r)))):=by rw[e];simp
  rw[hR,tT (.inr rfl)];exact key _ hR.symm rfl (λ h=>by simp at h)
theorem yP{t:aE}(h10:t.contains 10=false)(hq:t.contains 34=false\/t.contains 39=false)(r:aE)(a:Nat):gp (fi t++r) a = .inl (⟨4,t,0,0,a⟩,(fi t).length):=by
 have go:∀q:UInt8,(q=34\/q=39)->t.contains q=false->gp ([q]++t++[q]++r) a = .inl (⟨4,t,0,0,a⟩,([q]++t++[q]).length):=by
  intro q hq hc;have hne:∀c∈t,(c != q)=true:=λ c hm=>by
   rw[bne_iff_ne];rintro rfl;rw[List.contains_iff_mem.2 hm]at hc;cases hc
  have t1:(t++(q::r)).takeWhile (· != q)=t:=yZ hne (.inr ⟨q,r,rfl,by simp⟩);have t2:(t++(q::r)).dropWhile (· != q)=q::r:=Ps hne (.inr ⟨q,r,rfl,by simp⟩);have e:[q]++t++[q]++r=q::(t++(q::r)):=by simp
  rw[e];simp only[gp];rw[aaN (by rcases hq with rfl|rfl<;>decide),aaN (by rcases hq with rfl|rfl<;>decide),aaR hq];simp only[vO,t1,t2];rw[aaN (by rintro(h|h);cases h;rw[h10]at h;cases h)];simp
 unfold fi;split
 ·rename_i h;exact go 39 (.inr rfl) (hq.resolve_left (by rw[h];decide))
 ·rename_i h;exact go 34 (.inl rfl) (by simpa using h)
theorem yD{c:UInt8}(h:jP.contains c=true)(r:aE)(a:Nat):gp ([c]++r) a = .inl (⟨5,[c],0,0,a⟩,1):=by
 have hm:c∈jP:=List.contains_iff_mem.1 h;simp only[List.singleton_append,gp];rw[aaN,aaN,aaN,aaR h]
 all_goals
  simp only[jP,List.mem_cons,List.not_mem_nil,or_false]at hm;rcases hm with rfl|rfl|rfl|rfl|rfl|rfl|rfl|rfl|rfl|rfl|rfl|rfl|rfl<;>decide
def N2(t:Tok):aE:=if t.kind=1\/t.kind=5 then t.text else if t.kind=2 then cU t.n else if t.kind=3 then gE t.d else if t.kind=4 then fi t.text else []
def Jc(d:Nat):Prop:=d<2^64/\d / 2^52%2048≠2047
def TH(s:aE):Prop:=s.contains 10=false/\(s.contains 34=false\/s.contains 39=false)
def gI(t:Tok):Prop:=
 (∃w a,t=⟨1,w,0,0,a⟩/\OG w)\/(∃n a,t=⟨2,[],n,0,a⟩/\-9223372036854775808<=n/\n<=9223372036854775807)\/(∃d a,t=⟨3,[],0,d,a⟩/\Jc d)\/(∃s a,t=⟨4,s,0,0,a⟩/\TH s)\/∃c a,t=⟨5,[c],0,0,a⟩/\jP.contains c=true
def YC(q:aE):Prop:=q=[]\/∃c r,q=c::r/\zL c=false/\c≠35/\c≠47
theorem Ut{c:UInt8}(h:k9 c=true):zL c=false/\c≠35/\c≠47:=by
 refine⟨?_,?_,?_⟩
 ·cases hs:zL c with
  |false=>rfl
  |true=>
   simp only[zL,Bool.or_eq_true,beq_iff_eq]at hs;rcases hs with((rfl|rfl)|rfl)|rfl<;>revert h<;>decide
 ·rintro rfl;revert h;decide
 ·rintro rfl;revert h;decide
theorem F0{c:UInt8}(h:jP.contains c=true):zL c=false/\c≠35/\c≠47:=by have hm:c∈jP:=List.contains_iff_mem.1 h;simp only[jP,List.mem_cons,List.not_mem_nil,or_false]at hm;rcases hm with rfl|rfl|rfl|rfl|rfl|rfl|rfl|rfl|rfl|rfl|rfl|rfl|rfl<;>decide
theorem Ms(n:Int):∃c q,cU n=c::q/\zL c=false/\c≠35/\c≠47:=by
 unfold cU;split
 ·exact⟨45,_,rfl,by decide,by decide,by decide⟩
 ·obtain⟨d,q,hd,d1,_⟩:=qm n.toNat;have:=nR d1;exact⟨d,q,hd,this.2.2.2.2.2.1,this.2.2.2.2.2.2.1,this.2.2.2.2.2.2.2⟩
theorem I7{t:Tok}(h:gI t){r:aE}(hr:Dl r)(a:Nat):gp (N2 t++r) a = .inl ({ t with at_:=a },(N2 t).length)/\∃c q,N2 t=c::q/\zL c=false/\c≠35/\c≠47:=by
 rcases h with⟨w,x,rfl,h⟩|⟨n,x,rfl,h1,h2⟩|⟨d,x,rfl,h1,h2⟩|⟨s,x,rfl,h1,h2⟩|⟨c,x,rfl,h⟩
 ·refine⟨HV h hr a,?_⟩;obtain⟨⟨c,q,rfl,hc⟩,_⟩:=h;exact⟨c,q,rfl,Ut hc⟩
 ·exact⟨MU h1 h2 hr a,Ms n⟩
 ·refine⟨Mr h1 h2 hr a,?_⟩;obtain⟨sg,dg,p,n,hsg,g1,_,_,e⟩:=yB d h2;have:=nR g1;show ∃c q,gE d=c::q/\_;rcases hsg with rfl|rfl
  ·exact⟨dg,_,e,this.2.2.2.2.2.1,this.2.2.2.2.2.2.1,this.2.2.2.2.2.2.2⟩
  ·exact⟨45,_,e,by decide,by decide,by decide⟩
 ·refine⟨yP h1 h2 r a,?_⟩;show ∃c q,fi s=c::q/\_;unfold fi;split
  ·exact⟨39,s++[39],by simp,by decide,by decide,by decide⟩
  ·exact⟨34,s++[34],by simp,by decide,by decide,by decide⟩
 ·exact⟨yD h r a,c,[],rfl,F0 h⟩
theorem NM{q:aE}(h:YC q)(f k:Nat):fT f q k=(k,true):=by
 cases f with
 |zero=>rfl
 |succ f=>
  rcases h with rfl|⟨c,r,rfl,h1,h2,h3⟩
  ·rfl
  ·simp only[fT];rw[aaN (by rw[h1];decide),aaN (by rintro(h|h);exact h2 h;exact h3 h.1),aaN (λ h=>h3 h.1)]
theorem U5{c:UInt8}(h:zL c=true)(f k:Nat)(q:aE):fT (f+1) (c::q) k=fT f q (k+1):=by simp only[fT];rw[aaR h]
def strip(t:Tok):Tok:={ t with at_:=0 }
def Lx(s:aE):Prop:=∀(f a:Nat) (l:List Tok),s.length<f->(oe f s a l).2=(0,0)
theorem jg:∀(f:Nat) (r:aE) (k:Nat),fT f r k=(k+(fT f r 0).1,(fT f r 0).2)
 |0,r,k=>rfl
 |f+1,[],k=>rfl
 |f+1,c::q,k=>by
  simp only[fT];split
  ·rw[jg f q (k+1),jg f q (0+1)];simp;omega
  ·split
   ·rw[jg f _ (k+_),jg f _ (0+_)];simp;omega
   ·split
    ·split
     ·rfl
     ·rename_i n _;rw[jg f _ (k+(2+n)),jg f _ (0+(2+n))];simp;omega
    ·rfl
theorem Qb{c:UInt8}(h:zL c=true)(f:Nat)(s:aE)(a:Nat)(l:List Tok):oe (f+1) (c::s) a l=oe (f+1) s (a+1) l:=by
 have hs:fT (c::s).length (c::s) 0=((fT s.length s 0).1+1,(fT s.length s 0).2):=by rw[aaT,U5 h,jg,Nat.add_comm]
 simp only[oe];rw[hs]
 cases hk:fT s.length s 0 with
 |mk k b=>
  cases b with
  |false=>simp only;congr 2;omega
  |true=>
   simp only;have e1:a+(c::s).length=a+1+s.length:=by simp;omega
   have e2:(c::s).drop (k+1)=s.drop k:=rfl;have e3:a+(k+1)=a+1+k:=by omega
   rw[e1,e2,e3];by_cases hl:s.length<=k
   ·rw[aaR hl,aaR (by simp;omega)]
   ·rw[aaN hl,aaN (by simp;omega)]
    cases gp (s.drop k) (a+1+k) with
    |inr x=>rfl
    |inl x=>
     obtain⟨t,n⟩:=x;simp only;have e4:(c::s).drop (k+1+n)=s.drop (k+n):=by rw[show k+1+n=(k+n)+1 by omega];rfl
     rw[e4]
theorem Lx.nil:Lx []:=by
 intro f a l hf;obtain⟨g,rfl⟩:∃g,f=g+1:=⟨f-1,by omega⟩
 rfl
theorem Lx.sp{c:UInt8}{s:aE}(h:zL c=true)(hs:Lx s):Lx (c::s):=by
 intro f a l hf;obtain⟨g,rfl⟩:∃g,f=g+1:=⟨f-1,by omega⟩
 rw[Qb h];exact hs _ _ _ (by simp at hf;omega)
def V1(u:aE):Prop:=∀s,Lx s->Lx (u++s)
def LxT(u:aE):Prop:=∀s,Lx s->Dl s->Lx (u++s)
def DlH(u:aE):Prop:=∃c q,u=c::q/\fR c=false
theorem V1.nil:V1 []:=λ s h=>h
theorem V1.app{u v:aE}(h:V1 u)(k:V1 v):V1 (u++v):=λ s hs=>by rw[abg];exact h _ (k s hs)
theorem LxT.app{u v:aE}(h:LxT u)(k:V1 v)(hv:DlH v):V1 (u++v):=λ s hs=>by
 rw[abg];obtain⟨c,q,rfl,hc⟩:=hv;exact h _ (k s hs) (.inr ⟨c,q++s,rfl,hc⟩)
theorem Rc(neg:Bool)(v:Nat)(h:v<2047*2^52):Jc (tD neg v):=by
 unfold tD Jc;split
 ·have e:v ||| 2^63=1*2^63+v:=by rw[Nat.or_comm];have:=Nat.shiftLeft_add_eq_or_of_lt (a:=1) (b:=v) (i:=63) (by omega);rw[Nat.shiftLeft_eq,Nat.one_mul]at this;rw[Nat.one_mul];exact this.symm
  rw[e];omega
 ·omega
theorem Nq{s:aE}(h:(et s).2=0):Jc (et s).1:=by
 unfold et at h⊢;split at h
 ·cases h
 rename_i h1;rw[aaN h1];split at h
 ·cases h
 rename_i h2;rw[aaN h2];split at h
 ·cases h
 rename_i h3;rw[aaN h3];have hy:∀(m:Int) (x:Nat),0<(rV m x).2:=by
  intro m x;unfold rV;split
  ·exact Nat.one_pos
  ·exact abt (by decide)
 generalize hr:rV ((rS (splitB s).1).1-(splitB s).1.part.length) (dq ((splitB s).1.whole++(splitB s).1.part))=r at h⊢;obtain⟨v,_,hv⟩:=nM r.1 r.2 (by rw[<-hr];exact hy _ _);dsimp only at h⊢;rw[hv]at h⊢;unfold xA at h⊢;split at h
 ·rename_i hlt;rw[aaR hlt];exact Rc _ _ hlt
 ·cases h
theorem mV{r:aE}{n a m:Nat}{t t':Tok}(h:rm r n a t = .inl (t',m)):t'=t:=by
 unfold rm at h;split at h
 ·injection h with h;injection h with h;exact h.symm
 ·split at h
  ·cases h
  ·injection h with h;injection h with h;exact h.symm
theorem PW{r:aE}{a n:Nat}{t:Tok}(h:CA r a = .inl (t,n)):gI t:=by
 unfold CA at h;dsimp only at h;split at h
 ·cases h
 split at h
 ·cases h
 rename_i h2;have:=mV h;subst this;refine .inr (.inl ⟨_,_,rfl,by omega,by omega⟩)
theorem I6{b:Bool}{v:Nat}(h:¬(iM b v).2=false):-9223372036854775808<=(iM b v).1/\(iM b v).1<=9223372036854775807:=by
 unfold iM at h⊢;split at h
 ·rename_i hb;rw[aaR hb];simp only[decide_eq_false_iff_not,Decidable.not_not]at h;omega
 ·rename_i hb;rw[aaN hb];simp only[decide_eq_false_iff_not,Decidable.not_not]at h;omega
theorem Qv{r:aE}{a n:Nat}{t:Tok}(h:oS r a = .inl (t,n)):gI t:=by
 unfold oS at h;dsimp only at h;split at h
 ·exact PW h
 split at h
 ·cases h
 split at h
 ·split at h
  ·cases h
  split at h
  ·cases h
  rename_i h4;have:=mV h;subst this;exact .inr (.inl ⟨_,_,rfl,I6 h4⟩)
 ·split at h
  ·cases h
  rename_i h4;have:=mV h;subst this;exact .inr (.inr (.inl ⟨_,_,rfl,Nq (by omega)⟩))
theorem IW{p:UInt8->Bool}:∀{l:aE} {c:UInt8},c∈l.takeWhile p->p c=true
 |a::l,c,h=>by
  rw[List.takeWhile_cons]at h;split at h
  ·rename_i ha;rcases List.mem_cons.1 h with rfl|h
   ·exact ha
   ·exact IW h
  ·cases h
theorem NW{q:UInt8}(hq:q=34\/q=39){r:aE}{a n:Nat}{t:Tok}(h:vO q r a = .inl (t,n)):gI t:=by
 unfold vO at h;dsimp only at h;split at h
 ·cases h
 rename_i h1;injection h with h;injection h with h
 subst h;have hc:(r.takeWhile (· != q)).contains q=false:=by
  cases e:(r.takeWhile (· != q)).contains q with
  |false=>rfl
  |true=>
   have:=IW (List.contains_iff_mem.1 e);simp at this
 refine .inr (.inr (.inr (.inl ⟨_,_,rfl,?_,?_⟩)))
 ·cases e:(r.takeWhile (· != q)).contains 10 with
  |false=>rfl
  |true=>exact absurd (.inr e) h1
 ·rcases hq with rfl|rfl
  ·exact .inl hc
  ·exact .inr hc
theorem Nh{c:UInt8}{q:aE}(hc:k9 c=true){a n:Nat}{t:Tok}(h:vB (c::q) a = .inl (t,n)):gI t:=by
 unfold vB at h;dsimp only at h;split at h
 ·cases h
 rename_i h1;split at h
 ·cases h
 rename_i h2;injection h with h;injection h with h
 subst h;have hn:fR c=true:=by unfold fR;rw[hc];rfl
 refine .inl ⟨_,_,rfl,⟨c,q.takeWhile fR,by rw[List.takeWhile_cons,aaR hn],hc⟩,λ c hc=>IW hc,by omega,λ h=>h2 (.inl h),?_⟩
 cases e:qU ((c::q).takeWhile fR) with
 |false=>rfl
 |true=>exact absurd (.inr e) h2
theorem Oy{r:aE}{a n:Nat}{t:Tok}(h:gp r a = .inl (t,n)):gI t:=by
 unfold gp at h;split at h
 ·cases h
 rename_i c q;split at h
 ·rename_i hc;exact Nh hc h
 split at h
 ·exact Qv h
 split at h
 ·rename_i hq;exact NW hq h
 split at h
 ·rename_i hs;injection h with h;injection h with h
  subst h;exact .inr (.inr (.inr (.inr ⟨c,a,rfl,hs⟩)))
 ·cases h
theorem UH{r:aE}{a n:Nat}{t:Tok}(h:oS r a = .inl (t,n)):t.text=[]:=by
 unfold oS at h;dsimp only at h;split at h
 ·unfold CA at h;dsimp only at h;split at h
  ·cases h
  split at h
  ·cases h
  rw[mV h]
 split at h
 ·cases h
 split at h
 ·split at h
  ·cases h
  split at h
  ·cases h
  rw[mV h]
 ·split at h
  ·cases h
  rw[mV h]
theorem Ti{r:aE}{a n:Nat}{t:Tok}(h:gp r a = .inl (t,n)):t.text.length<=r.length:=by
 unfold gp at h;split at h
 ·cases h
 rename_i c q;split at h
 ·unfold vB at h;dsimp only at h;split at h
  ·cases h
  split at h
  ·cases h
  injection h with h;injection h with h
  subst h;exact jU _ _
 split at h
 ·rw[UH h];exact Nat.zero_le _
 split at h
 ·unfold vO at h;dsimp only at h;split at h
  ·cases h
  injection h with h;injection h with h
  subst h;exact abI (jU _ _) (Nat.le_succ _)
 split at h
 ·injection h with h;injection h with h
  subst h;exact Nat.succ_le_succ (Nat.zero_le _)
 ·cases h
theorem AV(N:Nat):∀(f:Nat) (r:aE) (a:Nat) (l:List Tok),r.length<=N->(∀t∈l,gI t/\t.text.length<=N)->∀t∈(oe f r a l).1,(gI t/\t.text.length<=N)\/t.kind=6
 |0,_,_,_,_,_,t,ht=>by cases ht
 |f+1,r,a,l,hr,hl,t,ht=>by
  simp only[oe]at ht;split at ht
  ·cases ht
  rename_i k hk;split at ht
  ·rcases List.mem_append.1 ht with ht|ht
   ·exact .inl (hl t ht)
   ·rw[abK.1 ht];exact .inr rfl
  ·split at ht
   ·cases ht
   ·rename_i t' n hw;refine AV N f _ _ _ (by rw[abB];omega) ?_ t ht;intro x hx;rcases List.mem_append.1 hx with hx|hx
    ·exact hl x hx
    ·rw[abK.1 hx];have:=Ti hw;rw[abB]at this;exact⟨Oy hw,by omega⟩
theorem xN(s:aE):(∃W e,lexB s=(W++[⟨6,[],0,0,e⟩],0,0)/\∀t∈W,gI t/\t.text.length<=2000)\/∃e w,lexB s=([],e,w)/\e≠0:=by
 rcases rL s with⟨l,hg,h⟩|⟨e,w,h,he,_⟩
 ·refine .inl ⟨l,_,h,λ t ht=>?_⟩;have h1:t∈(lexB s).1:=by rw[h];exact List.mem_append_left _ ht
  unfold lexB at h1;split at h1
  ·cases h1
  ·rcases AV 2000 _ _ _ _ (by omega) (λ t h=>by cases h) t h1 with h2|h2
   ·exact h2
   ·exact absurd h2 (hg.1 t ht).1
 ·exact .inr ⟨e,w,h,he⟩
end Go.Dn.Dec
namespace Go.Dn.Dec.Pa
open Go.IntKind (i64 u64 u8 u16 i32 u32)
open Go.Proofs
set_option maxRecDepth 100000
abbrev GS:List V:=(fI true true true [] [] [])
theorem Xq{l:List D}(h:∀y∈l,y.width=12):bA 12 l=true:=by
 cases l with
 |nil=>rfl
 |cons y l=>exact beq_iff_eq.2 (h y (by simp))
section
variable {b : Bool} {W : List Tok} (hW : Wds W)
theorem Mu(s:PS):∃(kd:Int) (nm ty:aE) (ck cn cu:Int) (cs:aE) (cb:Bool) (cl:List D) (fb:Bool) (fl:List D) (mb:Bool) (ml:List D) (ex:aE) (tb:Bool) (tl:List D),(im W s).1=dD kd nm ty ck cn cu cs cb cl fb fl mb ml ex tb tl:=by
 unfold im
 cases h:jX W s with
 |none=>exact⟨_,_,_,_,_,_,_,_,_,_,_,_,_,_,_,_,rfl⟩
 |some x=>
  unfold jX at h
  repeat' split at h
  all_goals first
   |(cases h;done)
   |(injection h with h;subst h;exact⟨_,_,_,_,_,_,_,_,_,_,_,_,_,_,_,_,rfl⟩)
include hW in
theorem Ah(il sl:List D):∀(f:Nat) (L:List D) {s:PS},s.i<W.length->1<=f->(s.e=0->W.length<s.i+f)->(s.e=0->L.length<=s.i)->L.length<=100000->(∀y∈L,y.width=12)->
  RQ (N9 (fO il sl L::qO b W s GS))=
   some (if (eG W f L s).2.e≠0 then(.t [.d (AG true [] true [] true []),vi (eG W f L s).2.e,vi (eG W f L s).2.a],[]) else(.t [.d (AG il.isEmpty il sl.isEmpty sl (eG W f L s).1.isEmpty (eG W f L s).1),vi 0,vi 0],[]))
 |0,L,s,hs,hf,_,_,_,_=>by omega
 |f+1,L,s,hs,hf,hm,hl,hl2,hw=>by
  have hlen:=hW.len;have at255:∀(L:List D) (s:PS),RQ (KH (fO il sl L::qO b W s GS))=
    some (if s.e≠0 then(.t [.d (AG true [] true [] true []),vi s.e,vi s.a],[]) else(.t [.d (AG il.isEmpty il sl.isEmpty sl L.isEmpty L),vi 0,vi 0],[])):=by
   intro L s;rw[RQ];refine(Nv ..).trans ?_;refine(sY (j:=2) (n:=s.e) rfl).trans ?_;by_cases h:s.e=0
   ·rw[eN h,aaN (λ x=>x h)];rfl
   ·rw[fj h,aaR h];refine(sY (j:=2) (n:=s.e) rfl).trans ?_;refine(sY (j:=3) (n:=s.a) rfl).trans ?_;rfl
  have fail:∀(c:Int) {s:PS},s.i<W.length->RQ (.call 40 [.p 1 0,vi c] (qO b W s GS))=some (.t [],qO b W (dx W c s) GS):=λ c s hs=>ti (jH hs c) GS;have go:s.e=0->(bm W s).kind≠6->¬(L.length=30/\sA W s=true)->RQ (VG false (fO il sl L::qO b W s GS))=
    some (if (eG W (f+1) L s).2.e≠0 then(.t [.d (AG true [] true [] true []),vi (eG W (f+1) L s).2.e,vi (eG W (f+1) L s).2.a],[]) else(.t [.d (AG il.isEmpty il sl.isEmpty sl (eG W (f+1) L s).1.isEmpty (eG W (f+1) L s).1),vi 0,vi 0],[])):=by
   intro he hk h3;have h0:=hm he;have h1:=hl he;have a:=B8 hW hs;rw[show eG W (f+1) L s=eG W f (L++[(im W s).1]) (vW W s) by rw[eG,aaR ⟨he,hk⟩,aaN h3]];have hdef:=ti (YU (b:=b) hW hs) GS;obtain⟨kd,nm,ty,ck,cn,cu,cs,cb,cl,fb,fl,mb,ml,ex,tb,tl,e⟩:=Mu (W:=W) s;have ih:=Ah il sl f (L++[(im W s).1]) a.lt (by omega) (λ x=>by have:=a.ad x;omega) (λ x=>by have:=a.ad x;simp;omega) (by simp;omega) (IC hw (by rw[e];rfl));rw[e]at hdef ih⊢;have next:∀t:PS,t=vW W s->RQ (Vy (aC (dp nm ty cs ex kd ck cn cu cb fb mb tb cl fl ml tl)::fO il sl L::qO b W t GS))=RQ (N9 (fO il sl (L++[dD kd nm ty ck cn cu cs cb cl fb fl mb ml ex tb tl])::qO b W (vW W s) GS)):=by intro t ht;rw[ht,RQ];refine(FC ..).trans ?_;refine(qN (Xq hw)).trans ?_;refine(qN (show (L.isEmpty||dV [dD kd nm ty ck cn cu cs cb cl fb fl mb ml ex tb tl])=true by rw[show dV [dD kd nm ty ck cn cu cs cb cl fb fl mb ml ex tb tl]=true from rfl,Bool.or_true])).trans ?_;refine(aN (by omega)).trans ?_;rw[show (L.isEmpty&&false)=(L++[dD kd nm ty ck cn cu cs cb cl fb fl mb ml ex tb tl]).isEmpty by rw[Un,Bool.and_false]];exact di
   rw[RQ];refine(vJ ..).trans ?_;refine bH.trans ?_;refine(Zw hdef).trans ?_;refine aQ.trans ?_;have hd:=Ph hW hs
   cases hx:(im W s).2.1 with
   |true=>
    rw[mr];exact di.trans ((next _ (by rw[vW,aaR hx])).trans ih)
   |false=>
    rw[kX];refine(ID (fail 2 hd.1.lt)).trans ?_;exact di.trans ((next _ (by rw[vW,aaN (by rw[hx];decide)])).trans ih)
  have at3135:∀w:Bool,w=decide (s.e=0/\(bm W s).kind≠6)->RQ (VH w (fO il sl L::qO b W s GS))=
    some (if (eG W (f+1) L s).2.e≠0 then(.t [.d (AG true [] true [] true []),vi (eG W (f+1) L s).2.e,vi (eG W (f+1) L s).2.a],[]) else(.t [.d (AG il.isEmpty il sl.isEmpty sl (eG W (f+1) L s).1.isEmpty (eG W (f+1) L s).1),vi 0,vi 0],[])):=by
   intro w hw';rw[RQ];refine(Il ..).trans ?_;rw[hw'];by_cases h:s.e=0/\(bm W s).kind≠6
   ·rw[bC h];by_cases h30:L.length=30
    ·rw[bM];refine(C7 (ti (W4 hW hs) GS)).trans ?_;refine di.trans ?_
     cases hb:sA W s with
     |true=>
      rw[show eG W (f+1) L s=(L,dx W 4 s) by rw[eG,aaR h,aaR ⟨h30,hb⟩],RQ];refine(vJ ..).trans ?_;refine bQ.trans ?_;refine(ID (fail 4 hs)).trans ?_;exact di.trans (at255 L _)
     |false=>exact go h.1 h.2 (λ x=>by rw[hb]at x;cases x.2)
    ·rw[bp];exact di.trans (go h.1 h.2 λ x=>h30 x.1)
   ·rw[bB h,show eG W (f+1) L s=(L,s) by rw[eG,aaN h]]
    exact di.trans (at255 L s)
  rw[RQ];refine(Nw ..).trans ?_;refine(sY (j:=2) (n:=s.e) rfl).trans ?_;by_cases he:s.e=0
  ·rw[bM he];refine(Zv (ti (jv hs) GS)).trans ?_;refine cT.trans ?_;refine di.trans ?_;refine at3135 _ ?_;by_cases hk:(bm W s).kind=6
   ·rw[show (((bm W s).kind:Int) != 6)=false by rw[hk];rfl,abf (λ x=>x.2 hk)]
   ·rw[show (((bm W s).kind:Int) != 6)=true from bne_iff_ne.2 (by omega),aa3 ⟨he,hk⟩]
  ·rw[bp he];exact di.trans (at3135 false (abf λ x=>he x.1).symm)
end
def fG(s:aE):D×Int×Int:=
 if (lexB s).2.1≠0 then(AG true [] true [] true [],(lexB s).2.1,(lexB s).2.2)else ov (lexB s).1
theorem JG{s:aE}(h:(lexB s).2.1=0):Wds (lexB s).1:=by
 rcases xN s with⟨W,e,h1,h2⟩|⟨e,w,h1,h2⟩
 ·have hl:=EY s;rw[h1]at hl⊢;simp only at hl⊢;refine⟨by simp,hl,λ i hi hk=>?_,λ t ht=>?_⟩
  ·rcases abn i W.length with h|h
   ·simp;omega
   ·exfalso;have:i=W.length:=by simp at hi;omega
    subst this;apply hk;simp
  ·rcases List.mem_append.1 ht with h|h
   ·exact(h2 t h).2
   ·rw[abK.1 h];exact Nat.zero_le _
 ·rw[h1]at h;exact absurd h h2
theorem J1(s:aE):RQ (.call 16 [vs s] [])=some (.t [.d (fG s).1,vi (fG s).2.1,vi (fG s).2.2],[]):=by
 have hl:=aaH s;unfold pJ at hl;rw[RQ,aa5];refine(IE hl).trans ?_;unfold fG;by_cases h:(lexB s).2.1=0
 ·rw[eN h,aaN (λ x=>x h)];have hW:=JG h;generalize (lexB s).1=W at hW⊢;have h0:(s0).i<W.length:=hW.pos;have hh:=ur (b:=W.isEmpty) hW GS [] (W.length+2) [] [] h0 (by omega) (λ _=>by omega) (by simp) (by simp) (λ _ h=>by cases h) (λ _ h=>by cases h);have hm:=sI hW (W.length+2) [] [] h0;have hd:=Ah (b:=W.isEmpty) hW (fg W).1.1 (fg W).1.2 (W.length+2) [] hm.lt (by omega) (λ _=>by omega) (λ _=>by simp) (by simp) (λ _ h=>by cases h);have h37:RQ (.call 37 [.p 1 0,.p 2 0] (fO [] [] []::qO W.isEmpty W s0 GS))=some (.t [],fO (fg W).1.1 (fg W).1.2 []::qO W.isEmpty W (fg W).2 GS):=by rw[RQ];refine(aa7 ..).trans ?_;exact di.trans hh
  refine(cr h37).trans ?_;show aD RQ (aO true (aO ((Y3:Fl)==Y3) (aO true (aO true (aO true (aO true (aO true (aR (N9 (fO (fg W).1.1 (fg W).1.2 []::qO W.isEmpty W (fg W).2 GS))))))))))=_;rw[aQ,show ((Y3:Fl)==Y3)=true from rfl,aQ,aQ,aQ,aQ,aQ,aQ];refine di.trans (hd.trans ?_);unfold ov;show some (if (mL W).2.e≠0 then _ else _)=_;split<;>rfl
 ·rw[fj h,aaR h];rfl
structure Wdn (W:List Tok):Prop extends Wds W where
 int:∀t∈W,Jd t.n
 dbl:∀t∈W,t.d<2^64
theorem Uu{s:aE}(h:(lexB s).2.1=0):Wdn (lexB s).1:=by
 have hw:=JG h;rcases xN s with⟨W,e,h1,h2⟩|⟨e,w,h1,h2⟩
 ·rw[h1]at hw⊢;have z:Jd 0:=⟨by decide,by decide⟩
  have key:∀t∈W++[(⟨6,[],0,0,e⟩:Tok)],Jd t.n/\t.d<2^64:=by
   intro t ht;rcases List.mem_append.1 ht with ht|ht
   ·rcases(h2 t ht).1 with⟨w,a,rfl,_⟩|⟨n,a,rfl,h3,h4⟩|⟨d,a,rfl,h3⟩|⟨q,a,rfl,_⟩|⟨c,a,rfl,_⟩
    ·exact⟨z,abt (by decide)⟩
    ·exact⟨⟨h3,h4⟩,abt (by decide)⟩
    ·exact⟨z,h3.1⟩
    ·exact⟨z,abt (by decide)⟩
    ·exact⟨z,abt (by decide)⟩
   ·rw[abK.1 ht];exact⟨z,abt (by decide)⟩
  exact⟨hw,λ t ht=>(key t ht).1,λ t ht=>(key t ht).2⟩
 ·rw[h1]at h;exact absurd h h2
section
variable {W : List Tok} {s : PS}
theorem ld{ok:aE->Bool}(h:(bR W ok s).2.e=0):s.e=0/\(bm W s).kind=1/\ok (bm W s).text=true/\bR W ok s=((bm W s).text,aZ s):=by
 unfold bR at h⊢;split at h
 ·rename_i hc;rw[aaR hc];exact⟨hc.1,hc.2.1,hc.2.2,rfl⟩
 ·exact absurd h (hJ 2 (by decide))
theorem UC{g:aE}(h:(cH W g s).e=0):gh W g s/\cH W g s=aZ s:=by
 unfold cH at h⊢;split at h
 ·rename_i hc;rw[aaR hc];exact⟨hc,rfl⟩
 ·exact absurd h (hJ 2 (by decide))
def Ln(s s':PS)(n:Nat):Prop:=n+3000*s.i<=3000*s'.i
end
section
variable {W : List Tok} (hW : Wdn W)
include hW in
theorem wq(s:PS):Jd (bm W s).n:=by
 unfold bm;rw[abG]
 cases h:W[s.i]? with
 |none=>exact⟨by decide,by decide⟩
 |some t=>exact hW.int t (abQ h)
include hW in
theorem UE(s:PS):(bm W s).d<2^64:=by
 unfold bm;rw[abG]
 cases h:W[s.i]? with
 |none=>exact abt (by decide)
 |some t=>exact hW.dbl t (abQ h)
theorem S5{sub:PS->Option (aE×PS)}{s:PS}(h:rZ W s=false):(ki W sub s).2.e≠0:=by
 unfold rZ at h;have h:=of_decide_eq_false h;unfold ki;split
 ·rename_i h1;split
  ·rename_i h2;exact absurd ⟨h1.2,.inr (.inl h2)⟩ h
  ·split
   ·intro e;have:=ld e;exact h ⟨h1.2,.inr (.inr this.2.2.1)⟩
   ·rename_i h3;exact absurd ⟨h1.2,.inl h3⟩ h
 ·exact hJ 2 (by decide)
theorem wH{n:Nat}{s:PS}(h:rZ W s=false):(eU W n s).2.e≠0:=by cases n<;>exact S5 h
end
def N3(l:List aE):Nat:=(l.map λ y=>y.length+10).sum
theorem ET:∀l:List aE,(Lib.join l [44,32]).length<=N3 l
 | []=>Nat.zero_le _
 |x::r=>by
  have:∀r:List aE,(Lib.joinTail [44,32] r).length<=N3 r:=by
   intro r
   induction r with
   |nil=>simp[Lib.joinTail]
   |cons y r ih=>
    simp only[Lib.joinTail,List.flatMap_cons,aaS,N3,List.map_cons,List.sum_cons]at ih⊢;simp at ih⊢;omega
  have h:=this r;rw[Lib.join_cons,aaS];simp only[N3,List.map_cons,List.sum_cons]at h⊢;omega
section
variable {W : List Tok} (hW : Wdn W)
theorem Zh{n u:Int}{t:aE}{l:List D}:eB (Cs.D ⟨1,n,u,t,l⟩)=cU n:=by simp[Cs.D,eB]
theorem Zi{n u:Int}{t:aE}{l:List D}:eB (Cs.D ⟨2,n,u,t,l⟩)=gE u.toNat:=by simp[Cs.D,eB]
theorem Zj{n u:Int}{t:aE}{l:List D}:eB (Cs.D ⟨3,n,u,t,l⟩)=fi t:=by simp[Cs.D,eB]
theorem XV{n u:Int}{t:aE}{l:List D}:eB (Cs.D ⟨4,n,u,t,l⟩)=t:=by simp[Cs.D,eB]
theorem Zk{n u:Int}{t:aE}{l:List D}:eB (Cs.D ⟨5,n,u,t,l⟩)=[91]++Lib.join (l.map eB) [44,32]++[93]:=by simp[Cs.D,eB,iG]
theorem Zl{n u:Int}{t:aE}{l:List D}:eB (Cs.D ⟨6,n,u,t,l⟩)=[123]++Lib.join (cC (l.map eB)) [44,32]++[125]:=by simp[Cs.D,eB,iG]
def Cg(d:Nat)(s s':PS)(c:Cs):Prop:=WC d c.D/\c.k≠0/\Ln s s' ((eB c.D).length+10)
theorem Cs.kn{c:Cs}(h:c.k≠0):Kn c.D:=h
theorem JD{k n u:Int}{t:aE}{d:Nat}(hn:Jd n)(hu:YE u)(ht:t.length<=2000)(hk:1<=k/\k<=5):WC (d+1) (Cs.D ⟨k,n,u,t,[]⟩):=
 ⟨k,n,u,t,true,[],rfl,hn,hu,ht,by simp,.inr (.inl hk),λ _ h=>by cases h⟩
theorem VZ:Jd 0:=⟨by decide,by decide⟩
theorem Jb:YE 0:=⟨by decide,by decide⟩
theorem GX{it:PS->Cs×PS}{s:PS}(he:s.e=0)(h:uc W s=false):(eZ W it s).2.e≠0:=by
 unfold uc at h;unfold eZ;rw[aaN (λ x=>x he)];split at h
 ·cases h
 rename_i h1;rw[aaN (λ x=>h1 (.inl x)),aaN (λ x=>h1 (.inr (.inl x))),aaN (λ x=>h1 (.inr (.inr x)))];split at h
 ·rename_i h2;rw[aaR h2];rw[Bool.or_eq_false_iff]at h;rw[aaN (of_decide_eq_false h.1)];intro e;have:=(ld e).2.2.1;rw[h.2]at this;cases this
 ·rename_i h2;rw[aaN h2];have h3:=of_decide_eq_false h;rw[aaN h3];exact hJ 2 (by decide)
end
def jZ(m:D->Nat)(l:List D):Nat:=(l.map m).sum
theorem lG(f:D->aE)(m:D->Nat)(h:∀x,(f x).length<=m x):∀l:List D,(l.map f).flatten.length<=jZ m l
 | []=>Nat.zero_le _
 |x::l=>by
  have:=lG f m h l;have:=h x;simp only[jZ,List.map_cons,List.flatten_cons,aaS,List.sum_cons]at *;omega
abbrev mF(x:D):Nat:=(sd x).length+500
theorem Fu(l:List D):(fh l).length<=jZ mF l:=by
 have h1:=ET (l.map sd);have h2:N3 (l.map sd)<=jZ mF l:=by
  clear h1
  induction l with
  |nil=>exact aa4 _
  |cons x l ih=>simp only[N3,jZ,mF,List.map_cons,List.sum_cons]at ih⊢;omega
 unfold fh;omega
section
variable {W : List Tok} (hW : Wdn W)
theorem yf{h:Bool}{id r:Int}{t nm:aE}{hi:Bool}{c:Cs}:sd (fD h id r t nm hi c.k c.n c.u c.s c.l.isEmpty c.l)=(if h=true then cU id++[58,32]else [])++(if r=1 then [114,101,113,117,105,114,101,100,32]else if r=2 then [111,112,116,105,111,110,97,108,32]else [])
      ++ t++[32]++nm++(if hi=true then [32,61,32]++eB c.D else []):=rfl
include hW in
theorem MM{s:PS}(hs:s.i<W.length)(h:vU W s=false):(ff W s).2.e≠0:=by
 unfold vU at h;rw[Bool.or_eq_false_iff]at h;have h0:=of_decide_eq_false h.1;have f1:jY W s=s:=by unfold jY;rw[aaN (λ x=>h0 (.inl x))]
 have f2:pB W s=s:=by unfold pB cS;rw[aaN (λ x=>h0 (.inr (.inl x))),aaN (λ x=>h0 (.inr (.inr x)))]
 have ht:=wH (n:=12) h.2;unfold ff;dsimp only;rw[f1,f2];have h3:=iA hW.toWds 12 hs;have h4:=cz hW.toWds bu h3.lt;have h5:=wg hW.toWds h4.lt;have h6:=gz hW.toWds h5.lt;exact λ e=>ht (h4.e (h5.e (h6.e e)))
abbrev mM(x:D):Nat:=(te x).length
include hW in
theorem HS{s:PS}(hs:s.i<W.length)(h0:s.e=0)(h:B3 W s=false):(eJ W s).2.e≠0:=by unfold eJ;dsimp only;have h1:=cz hW.toWds bu hs;have h2:=CH hW.toWds h1.lt;have h3:=gz hW.toWds h2.lt;intro e;have:=ld (h2.e (h3.e e));exact of_decide_eq_false h ⟨this.2.1,this.2.2.1⟩
abbrev Zc(x:D):Nat:=(iU x).length
include hW in
theorem HT{s:PS}(hs:s.i<W.length)(h0:s.e=0)(h:o5 W s=false):(eK W s).2.e≠0:=by
 unfold o5 at h;rw[Bool.or_eq_false_iff]at h;have hn:=of_decide_eq_false h.1;have f1:cS W 1 dW s=s:=by unfold cS;rw[aaN (λ x=>hn (.inl x))]
 have f2:lP W s=eU W 12 s:=by unfold lP;rw[aaN (λ x=>hn (.inr x))]
 have ht:=wH (n:=12) h.2;unfold eK;dsimp only;rw[f1,f2];have h2:=iA hW.toWds 12 hs;have h3:=cz hW.toWds bu h2.lt;have h4:=bX hW.toWds [40] h3.lt;have h5:=jj hW.toWds [41] h4.lt;have h6:=Da hW.toWds h5.lt;have h7:=gz hW.toWds h6.lt;exact λ e=>ht (h3.e (h4.e (h5.e (h6.e (h7.e e)))))
end
theorem Z3:WC qS (cD 0 0 0 [] true []):=⟨0,0,0,[],true,[],rfl,VZ,Jb,by simp,by simp,.inl rfl,λ _ h=>by cases h⟩
theorem vY{P:D->Prop}:∀y∈([]:List D),P y:=λ _ h=>by cases h
section
variable {W : List Tok} (hW : Wdn W)
theorem UL(l:List D):(l.map rT).flatten.length<=jZ mF l:=
 lG rT mF (λ x=>by simp only[rT,mF,aaS,aaT,abp];omega) l
theorem UM(l:List D):(l.map te).flatten.length<=jZ mM l:=lG te mM (λ x=>aa4 _) l
theorem QJ(l:List D):(l.map iU).flatten.length<=jZ Zc l:=lG iU Zc (λ x=>aa4 _) l
theorem Pf{s:PS}(h:sA W s=false):jX W s=none:=by
 have key:∀w∈j8,¬bP W w s:=by intro w hw hp;have:sA W s=true:=List.any_eq_true.2 ⟨w,hw,aa3 hp⟩;rw[this]at h;cases h
 unfold jX;rw[aaN (key IX (by simp[j8])),aaN (key G5 (by simp[j8])),aaN (key xj (by simp[j8])),aaN (key F4 (by simp[j8])),aaN (key Gw (by simp[j8])),aaN (key D2 (by simp[j8])),aaN (key Iy (by simp[j8]))]
abbrev mD'(x:D):Nat:=(nr x).length
theorem J5{s:aE}(h:bu s=true):s.contains 34=false:=by
 cases s with
 |nil=>cases h
 |cons c r=>
  simp only[bu,Bool.and_eq_true]at h;have h2:=abu.1 h.2
  cases e:(c::r).contains 34 with
  |false=>rfl
  |true=>
   have:=h2 34 (List.contains_iff_mem.1 e);exact absurd this (by decide)
abbrev mI(x:D):Nat:=(zm x).length
abbrev mS(x:D):Nat:=(vH x).length
end
theorem QI{x:D}(hx:Tv x)(h:mN x=[]):∃b1 b2 b3:Bool,x=AG b1 [] b2 [] b3 []:=by
 obtain⟨ib,il,sb,sl,db,dl,rfl,h1,h2,h3,h4,h5,h6⟩:=hx;simp only[AG,mN,List.append_eq_nil_iff]at h;obtain⟨⟨k1,k2⟩,k3⟩:=h;have i0:il=[]:=by
  cases il with
  |nil=>rfl
  |cons y l=>obtain⟨s,rfl,_⟩:=h4 y (by simp);simp[zm]at k1
 have s0:sl=[]:=by
  cases sl with
  |nil=>rfl
  |cons y l=>obtain⟨a,b,rfl,_⟩:=h5 y (by simp);simp[vH]at k2
 have d0:dl=[]:=by
  cases dl with
  |nil=>rfl
  |cons y l=>
   exfalso;obtain⟨kd,nm,ty,ck,cn,cu,cs,cb,cl,fb,fl,mb,ml,ex,tb,tl,rfl,_⟩:=h6 y (by simp);simp only[List.map_cons,List.flatten_cons]at k3;have:=congrArg List.length k3;simp only[aaS,abp]at this;have hd:0<(nr (dD kd nm ty ck cn cu cs cb cl fb fl mb ml ex tb tl)).length:=by
    simp only[nr]
    repeat' split
    all_goals simp only[aaS,aaT,abp];omega
   omega
 subst i0;subst s0;subst d0;exact⟨_,_,_,rfl⟩
def Rd(b:Bool)(s:aE)(ts:List Tok):Prop:=
 ∀(r:aE),(b=false->Dl r)->∀(f a:Nat) (l:List Tok),(s++r).length<f->
  ∃(f' a':Nat) (us:List Tok),us.map strip=ts.map strip/\oe f (s++r) a l=oe f' r a' (l++us)/\r.length<f'
theorem xO{w r:aE}{t:Tok}(h:∃c q,w=c::q/\zL c=false/\c≠35/\c≠47){a:Nat}(hw:gp (w++r) a = .inl (t,w.length))(g:Nat)(l:List Tok):
  oe (g+1) (w++r) a l=oe g r (a+w.length) (l++[t]):=by
 obtain⟨c,q,rfl,h1,h2,h3⟩:=h;simp only[oe];rw[NM (q:=c::q++r) (.inr ⟨c,q++r,rfl,h1,h2,h3⟩)];simp only;rw[aaN (by simp),List.drop_zero,Nat.add_zero,hw];simp only;rw[abv,List.drop_left]
theorem Rd.nil{b:Bool}:Rd b [] []:=λ r _ f a l hf=>⟨f,a,[],rfl,by simp,hf⟩
theorem Rd.sp{b:Bool}{c:UInt8}(h:zL c=true):Rd b [c] []:=λ r _ f a l hf=>by
 obtain⟨g,rfl⟩:∃g,f=g+1:=⟨f-1,by omega⟩
 exact⟨g+1,a+1,[],rfl,by rw[abo];exact Qb h g r a l,by simp at hf;omega⟩
theorem Rd.tok{t:Tok}(h:gI t):Rd false (N2 t) [t]:=λ r hr f a l hf=>by
 obtain⟨g,rfl⟩:∃g,f=g+1:=⟨f-1,by omega⟩
 obtain⟨h1,h2⟩:=I7 h (hr rfl) a;refine⟨g,a+(N2 t).length,[{ t with at_:=a }],rfl,xO h2 h1 g l,?_⟩;obtain⟨c,q,e,_⟩:=h2;rw[e]at hf;simp at hf;omega
abbrev cR(c:UInt8):Tok:=⟨5,[c],0,0,0⟩
abbrev dB(w:aE):Tok:=⟨1,w,0,0,0⟩
theorem Rd.sign{b:Bool}{c:UInt8}(h:jP.contains c=true):Rd b [c] [cR c]:=λ r _ f a l hf=>by
 obtain⟨g,rfl⟩:∃g,f=g+1:=⟨f-1,by omega⟩
 refine⟨g,a+1,[⟨5,[c],0,0,a⟩],rfl,xO ⟨c,[],rfl,F0 h⟩ (yD h r a) g l,?_⟩;simp at hf;omega
theorem Rd.quote{b:Bool}{s:aE}(h:TH s):Rd b (fi s) [⟨4,s,0,0,0⟩]:=λ r _ f a l hf=>by
 obtain⟨g,rfl⟩:∃g,f=g+1:=⟨f-1,by omega⟩
 have h2:∃c q,fi s=c::q/\zL c=false/\c≠35/\c≠47:=by
  unfold fi;split
  ·exact⟨39,s++[39],by simp,by decide,by decide,by decide⟩
  ·exact⟨34,s++[34],by simp,by decide,by decide,by decide⟩
 refine⟨g,a+(fi s).length,[⟨4,s,0,0,a⟩],rfl,xO h2 (yP h.1 h.2 r a) g l,?_⟩;obtain⟨c,q,e,_⟩:=h2;rw[e]at hf;simp at hf;omega
def Br(s:aE):Prop:=∃c q,s=c::q/\fR c=false
theorem Rd.app{b c:Bool}{s s':aE}{ts ts':List Tok}(h:Rd c s ts)(k:Rd b s' ts')(hc:c=false->Br s'):Rd b (s++s') (ts++ts'):=λ r hr f a l hf=>by
 rw[abg]at hf⊢;obtain⟨f1,a1,u1,e1,i1,l1⟩:=h (s'++r) (λ e=>by obtain⟨x,q,rfl,hx⟩:=hc e;exact .inr ⟨x,q++r,rfl,hx⟩) f a l hf;obtain⟨f2,a2,u2,e2,i2,l2⟩:=k r hr f1 a1 (l++u1) l1;exact⟨f2,a2,u1++u2,by rw[List.map_append,List.map_append,e1,e2],by rw[i1,i2,abg],l2⟩
theorem Rd.thn{b:Bool}{s s':aE}{ts ts':List Tok}(h:Rd true s ts)(k:Rd b s' ts'):Rd b (s++s') (ts++ts'):=h.app k λ e=>by cases e
theorem Rd.all{b:Bool}{s:aE}{ts:List Tok}(h:Rd b s ts)(hs:s.length<=2000):∃(us:List Tok) (e:Nat),lexB s=(us++[⟨6,[],0,0,e⟩],0,0)/\us.map strip=ts.map strip:=by
 obtain⟨f,a,us,e1,e2,e3⟩:=h [] (λ _ => .inl rfl) (s.length+1) 0 [] (by simp);refine⟨us,a,?_,e1⟩;unfold lexB;rw[cE];rw[abo,List.nil_append]at e2;rw[e2];obtain⟨g,rfl⟩:∃g,f=g+1:=⟨f-1,by simp at e3;omega⟩
 simp[oe,fT]
def At(W:List Tok)(i:Nat)(ts:List Tok):Prop:=∃r,(W.drop i).map strip=ts.map strip++r
theorem At.left{W:List Tok}{i:Nat}{ts us:List Tok}(h:At W i (ts++us)):At W i ts:=by obtain⟨r,h⟩:=h;exact⟨us.map strip++r,by rw[h,List.map_append,abg]⟩
theorem At.right{W:List Tok}{i:Nat}{ts us:List Tok}(h:At W i (ts++us)):At W (i+ts.length) us:=by obtain⟨r,h⟩:=h;refine⟨r,?_⟩;rw[<-List.drop_drop,List.map_drop,h,List.map_append,abg,show ts.length=(ts.map strip).length by simp,List.drop_left]
theorem At.tail{W:List Tok}{i:Nat}{t:Tok}{ts:List Tok}(h:At W i (t::ts)):At W (i+1) ts:=At.right (ts:=[t]) h
theorem At.now{W:List Tok}{i:Nat}{t:Tok}{ts:List Tok}(h:At W i (t::ts))(e a:Int):strip (bm W ⟨i,e,a⟩)=strip t:=by
 obtain⟨r,h⟩:=h;unfold bm;have h0:=congrArg List.head? h;rw[List.head?_map,List.head?_drop]at h0;rw[abG]
 cases hw:W[i]? with
 |none=>rw[hw]at h0;simp at h0
 |some u=>rw[hw]at h0;simpa using h0
theorem NS{t u:Tok}:strip t=strip u↔t.kind=u.kind/\t.text=u.text/\t.n=u.n/\t.d=u.d:=by obtain⟨a,b,c,d,e⟩:=t;obtain⟨a',b',c',d',e'⟩:=u;simp[strip]
def PS.adv(s:PS)(n:Nat):PS:=⟨s.i+n,s.e,s.a⟩
theorem cZ(s:PS)(n m:Nat):(s.adv n).adv m=s.adv (n+m):=by simp[PS.adv,aby]
theorem dU(s:PS):aZ s=s.adv 1:=rfl
theorem YG(s:PS)(n:Nat):(s.adv n).e=s.e:=rfl
theorem zQ(s:PS):s.adv 0=s:=rfl
section
variable {W : List Tok} {s : PS} {t : Tok} {ts : List Tok}
theorem At.kd(h:At W s.i (t::ts)):(bm W s).kind=t.kind/\(bm W s).text=t.text/\(bm W s).n=t.n/\(bm W s).d=t.d:=NS.1 (h.now s.e s.a)
theorem At.pF(h:At W s.i (t::ts))(h0:s.e=0):pF W t.kind t.text s:=⟨h0,h.kd.1,h.kd.2.1⟩
theorem gv{c:UInt8}(h:At W s.i (cR c::ts))(h0:s.e=0):cH W [c] s=s.adv 1:=by unfold cH;rw[aaR (h.pF h0)];rfl
theorem iF{ok:aE->Bool}{w:aE}(h:At W s.i (dB w::ts))(h0:s.e=0)(hk:ok w=true):bR W ok s=(w,s.adv 1):=by have:=h.kd;unfold bR;rw[aaR ⟨h0,this.1,by rw[this.2.1];exact hk⟩,this.2.1];rfl
end
def B0(W:List Tok):Prop:=∀t∈W,gI t\/t.kind=6
theorem iu{W:List Tok}(hW:B0 W){s:PS}(hk:(bm W s).kind≠6):gI (bm W s):=by
 unfold bm at hk⊢;rw[abG]at hk⊢
 cases h:W[s.i]? with
 |none=>rw[h]at hk;exact absurd rfl hk
 |some t=>
  rw[h]at hk;exact(hW t (abQ h)).resolve_right hk
theorem lv{t:Tok}(h:gI t)(hk:t.kind=1):gI (dB t.text)/\N2 (dB t.text)=t.text:=by
 refine⟨?_,rfl⟩;rcases h with⟨w,a,rfl,h⟩|⟨n,a,rfl,_⟩|⟨d,a,rfl,_⟩|⟨s,a,rfl,_⟩|⟨c,a,rfl,_⟩
 ·exact .inl ⟨w,0,rfl,h⟩
 all_goals cases hk
theorem dY{w:aE}(h:gI (dB w)):Rd false w [dB w]:=Rd.tok h
theorem Um:gI (dB [105,56]) := .inl ⟨_,0,rfl,⟨105,[56],rfl,by decide⟩,by decide,by decide,by decide,by decide⟩
def Ty(n:Nat)(w t:aE):Prop:=
 ∃(u:aE) (ts:List Tok),Rd false t (dB u::ts)/\(u=w\/u=[105,56])/\∀(W:List Tok) (s:PS),s.e=0->At W s.i (dB u::ts)->eU W n s=(t,s.adv (ts.length+1))
theorem CL{W:List Tok}{c:UInt8}{s:PS}(h:(cH W [c] s).e=0):s.e=0:=(UC h).1.1
theorem cP{c:UInt8}{q:aE}(h:fR c=false):Br (c::q):=⟨c,q,rfl,h⟩
section
variable {W : List Tok} (hW : Wds W) (hG : B0 W)
include hW hG in
theorem BI{n:Nat}{sub:∀W:List Tok,PS->Option (aE×PS)}(hp:∀W s,eU W n s=ki W (sub W) s)
  (hsub:∀s x,s.i<W.length->sub W s=some x->Ad W s x.2/\(x.2.e=0->Ln s x.2 (x.1.length+10)/\∃(u:aE) (ts:List Tok),Rd false x.1 (dB u::ts)/\∀(W':List Tok) (s':PS),s'.e=0->At W' s'.i (dB u::ts)->sub W' s'=some (x.1,s'.adv (ts.length+1))))
  {s:PS} (hs:s.i<W.length) (h:(eU W n s).2.e=0):Ln s (eU W n s).2 ((eU W n s).1.length+10)/\Ty n (bm W s).text (eU W n s).1:=by
 rw[hp]at h⊢;unfold ki at h⊢;split at h;rotate_left
 ·exact absurd h (hJ 2 (by decide))
 rename_i h1;rw[aaR h1];have hn:=bU hW hs (by rw[h1.2];decide);have ht:=jM hW hs;have nx:(aZ s).i=s.i+1:=rfl;have tg:=lv (iu hG (s:=s) (by rw[h1.2];decide)) h1.2;by_cases h2:(bm W s).text=[98,121,116,101]
 ·rw[aaR h2];refine⟨by simp only[Ln,nx,aaT,abp];omega,[105,56],[],dY Um,.inr rfl,λ W' s' h0 ha=>?_⟩;rw[hp];have hk:=ha.kd;unfold ki;rw[aaR ⟨h0,hk.1⟩,aaN (by rw[hk.2.1];decide),aaN (by rw[hk.2.1];decide),aaN (by rw[hk.2.1];decide),hk.2.1];rfl
 rw[aaN h2]at h⊢;by_cases h3:eO (bm W s).text=0
 ·rw[aaR h3]at h⊢;obtain⟨_,_,hf,he⟩:=ld h;rw[he];refine⟨by simp only[Ln,nx];omega,(bm W s).text,[],dY tg.1,.inl rfl,λ W' s' h0 ha=>?_⟩;have hk:=ha.kd;rw[hp];unfold ki;rw[aaR ⟨h0,hk.1⟩,aaN (by rw[hk.2.1];exact h2),aaR (by rw[hk.2.1];exact h3)];exact iF ha h0 hf
 rw[aaN h3]at h⊢;by_cases h4:eO (bm W s).text=15\/eO (bm W s).text=14\/eO (bm W s).text=13;rotate_left
 ·rw[aaN h4];refine⟨by simp only[Ln,nx];omega,(bm W s).text,[],dY tg.1,.inl rfl,λ W' s' h0 ha=>?_⟩;have hk:=ha.kd;rw[hp];unfold ki;rw[aaR ⟨h0,hk.1⟩,aaN (by rw[hk.2.1];exact h2),aaN (by rw[hk.2.1];exact h3),aaN (by rw[hk.2.1];exact h4),hk.2.1];rfl
 rw[aaR h4]at h⊢;have h5:=hn.mv (bX hW [60] hn.lt).toMv;split at h
 ·exact absurd h (hJ 6 (by decide))
 rename_i x hx;obtain⟨x1,x2⟩:=hsub _ _ h5.lt hx;by_cases h6:eO (bm W s).text=13
 ·rw[aaR h6]at h⊢;have h7:=x1.mv (bX hW [44] x1.lt).toMv;split at h
  ·exact absurd h (hJ 6 (by decide))
  rename_i y hy;obtain⟨y1,y2⟩:=hsub _ _ h7.lt hy;dsimp only at h⊢;have e1:=CL h;obtain⟨e2,u,ts,r1,b1⟩:=x2 (CL (y1.e e1));obtain⟨e3,v,us,r2,b2⟩:=y2 e1;have tx:=WU h6;have l1:=h5.le;have l2:=(bX hW [44] x1.lt).le;have l3:=(bX hW [62] y1.lt).ad h;have l4:=qC (k:=13) (x:=x.1) (y:=y.1);refine⟨by simp only[Ln]at e2 e3⊢;omega,(bm W s).text,[cR 60]++(dB u::ts)++[cR 44]++(dB v::us)++[cR 62],?_,.inl rfl,λ W' s' h0 ha=>?_⟩
  ·have key:Rd false ([109,97,112]++([60]++x.1++[44]++y.1++[62])) ([dB (bm W s).text]++([cR 60]++(dB u::ts)++[cR 44]++(dB v::us)++[cR 62])):=by
    refine Rd.app (c:=false) (by rw[tx]at tg⊢;exact dY tg.1) ?_ λ _=>?_
    ·refine Rd.app (c:=false) (Rd.app (c:=true) (Rd.app (c:=false) (Rd.app (c:=true) (Rd.sign (by decide)) r1 λ e=>by cases e) (Rd.sign (by decide)) λ _=>cP (by decide)) r2 λ e=>by cases e) (Rd.sign (by decide)) λ _=>cP (by decide)
    ·simp only[abg,List.singleton_append];exact cP (by decide)
   have e:ny 13 x.1 y.1=[109,97,112]++([60]++x.1++[44]++y.1++[62]):=by unfold ny;rw[aaR rfl];simp
   rw[e];exact key
  ·have hk:=ha.kd;rw[hp];unfold ki;rw[aaR ⟨h0,hk.1⟩,aaN (by rw[hk.2.1];exact h2),aaN (by rw[hk.2.1];exact h3),aaR (by rw[hk.2.1];exact h4)];have a1:=ha.tail;have a2:At W' (s'.adv 1).i (cR 60::((dB u::ts)++([cR 44]++((dB v::us)++[cR 62])))):=by show At W' (s'.i+1) _;simpa using a1
   have a3:At W' ((s'.adv 1).adv 1).i ((dB u::ts)++([cR 44]++((dB v::us)++[cR 62]))):=a2.tail;have a4:At W' (((s'.adv 1).adv 1).adv (ts.length+1)).i ([cR 44]++((dB v::us)++[cR 62])):=a3.right;have a5:At W' ((((s'.adv 1).adv 1).adv (ts.length+1)).adv 1).i ((dB v::us)++[cR 62]):=a4.right;have a6:At W' (((((s'.adv 1).adv 1).adv (ts.length+1)).adv 1).adv (us.length+1)).i [cR 62]:=a5.right;rw[dU,gv a2 h0,b1 W' ((s'.adv 1).adv 1) h0 a3.left];dsimp only;rw[aaR (by rw[hk.2.1];exact h6),gv a4 h0,b2 W' ((((s'.adv 1).adv 1).adv (ts.length+1)).adv 1) h0 a5.left];dsimp only;rw[gv a6 h0];simp only[cZ];congr 2;simp;omega
 ·rw[aaN h6]at h⊢;dsimp only at h⊢;have e1:=CL h;obtain⟨e2,u,ts,r1,b1⟩:=x2 e1;have l1:=h5.le;have l3:=(bX hW [62] x1.lt).ad h;have l4:=qC (k:=eO (bm W s).text) (x:=x.1) (y:=[]);have kw:Xv (eO (bm W s).text)=(bm W s).text:=by
   rcases h4 with h4|h4|h4
   ·rw[h4];exact(OS h4).symm
   ·rw[h4];exact(OR h4).symm
   ·exact absurd h4 h6
  refine⟨by simp only[Ln,abp]at e2 l4⊢;omega,(bm W s).text,[cR 60]++(dB u::ts)++[cR 62],?_,.inl rfl,λ W' s' h0 ha=>?_⟩
  ·have e:ny (eO (bm W s).text) x.1 []=(bm W s).text++([60]++x.1++[62]):=by unfold ny;rw[aaN h6,kw];simp
   rw[e];refine Rd.app (c:=false) (ts:=[dB (bm W s).text]) (dY tg.1) (Rd.app (c:=false) (Rd.app (c:=true) (Rd.sign (by decide)) r1 λ e=>by cases e) (Rd.sign (by decide)) λ _=>cP (by decide)) λ _=>by simp only[abg,List.singleton_append];exact cP (by decide)
  ·have hk:=ha.kd;rw[hp];unfold ki;rw[aaR ⟨h0,hk.1⟩,aaN (by rw[hk.2.1];exact h2),aaN (by rw[hk.2.1];exact h3),aaR (by rw[hk.2.1];exact h4)];have a1:=ha.tail;have a2:At W' (s'.adv 1).i (cR 60::((dB u::ts)++[cR 62])):=by show At W' (s'.i+1) _;simpa using a1
   have a3:At W' ((s'.adv 1).adv 1).i ((dB u::ts)++[cR 62]):=a2.tail;have a6:At W' (((s'.adv 1).adv 1).adv (ts.length+1)).i [cR 62]:=a3.right;rw[dU,gv a2 h0,b1 W' ((s'.adv 1).adv 1) h0 a3.left];dsimp only;rw[aaN (by rw[hk.2.1];exact h6),gv a6 h0,hk.2.1];simp only[cZ];congr 2;simp;omega
include hW hG in
theorem qd:∀(n:Nat) {s:PS},s.i<W.length->(eU W n s).2.e=0->Ln s (eU W n s).2 ((eU W n s).1.length+10)/\Ty n (bm W s).text (eU W n s).1
 |0,s,hs,h=>BI hW hG (sub:=λ _ _=>none) (λ _ _=>rfl) (λ _ _ _ h=>by cases h) hs h
 |n+1,s,hs,h=>BI hW hG (sub:=λ W s=>some (eU W n s)) (λ _ _=>rfl) (λ s x hs h=>by
   injection h with h;subst h
   refine⟨iA hW n hs,λ e=>?_⟩;obtain⟨l,u,ts,r,_,k⟩:=qd n hs e
   exact⟨l,u,ts,r,λ W' s' h0 ha=>congrArg some (k W' s' h0 ha)⟩) hs h
end
theorem At.len{W:List Tok}{i:Nat}{t:Tok}{ts:List Tok}(h:At W i (t::ts)):i+(t::ts).length<=W.length:=by obtain⟨r,h⟩:=h;have:=congrArg List.length h;simp only[List.length_map,abB,aaS,aaT]at this⊢;omega
def QB(ts:List Tok):Prop:=∃t r,ts=t::r/\¬(t.kind=5/\(t.text=[93]\/t.text=[125]\/t.text=[41]))
theorem QB.no{W:List Tok}{s:PS}{ts us:List Tok}(h:QB ts)(ha:At W s.i (ts++us)){g:aE}(hg:g=[93]\/g=[125]\/g=[41]):¬gh W g s:=by obtain⟨t,r,rfl,h⟩:=h;rintro⟨_,h1,h2⟩;have hk:=At.kd (s:=s) (t:=t) (ts:=r++us) ha;exact h ⟨by rw[<-hk.1];exact h1,by rw[<-hk.2.1,h2];exact hg⟩
theorem QB.pos{ts:List Tok}(h:QB ts):1<=ts.length:=by obtain⟨t,r,rfl,_⟩:=h;simp
theorem sX{W:List Tok}{s:PS}{t:Tok}{ts:List Tok}(h:At W s.i (t::ts))(h1:t.text≠[44])(h2:t.text≠[59]):fS W s=s:=by unfold fS cS;rw[aaN (λ x=>h1 (by rw[<-h.kd.2.1];exact x.2.2)),aaN (λ x=>h2 (by rw[<-h.kd.2.1];exact x.2.2))]
theorem J2{W:List Tok}{s:PS}{ts:List Tok}(h:At W s.i (cR 44::ts))(h0:s.e=0):fS W s=s.adv 1:=by unfold fS;rw[aaR (h.pF h0)];rfl
structure Itm where
 ds:List D
 tx:aE
 ts:List Tok
def mn(W:List Tok)(cst:PS->Cs×PS)(mp:Bool)(s:PS):List D×PS:=
 if mp=true then([(cst s).1.D,(cst (cH W [58] (cst s).2)).1.D],(cst (cH W [58] (cst s).2)).2) else([(cst s).1.D],(cst s).2)
theorem uw{W:List Tok}{cst:PS->Cs×PS}{mp:Bool}{f n:Nat}{L:List D}{s:PS}:
  eQ W cst mp (f+1) n L s=if s.e=0/\¬gh W (iS mp) s then(if n=40/\uc W s=true then(L,dx W 4 s)else eQ W cst mp f (n+1) (L++(mn W cst mp s).1) (fS W (mn W cst mp s).2)) else(L,s):=by
 rw[eQ];unfold mn
 cases mp with
 |true=>rw[aaR rfl,aaR rfl,abg];rfl
 |false=>rw[aaN (show ¬(false=true) by decide),aaN (show ¬(false=true) by decide)]
def It(cst:List Tok->PS->Cs×PS)(mp:Bool)(e:Itm):Prop:=
 QB e.ts/\Rd false e.tx e.ts/\(if mp=true then ∃a b,e.ds=[a,b]/\e.tx=eB a++[58,32]++eB b else ∃a,e.ds=[a]/\e.tx=eB a)/\
  ∀(W:List Tok) (s:PS),s.e=0->At W s.i e.ts->mn W (cst W) mp s=(e.ds,s.adv e.ts.length)
def jt:List (List Tok)->List Tok
 | []=>[]
 | [e]=>e
 |e::r=>e++cR 44::jt r
theorem qx(e x:List Tok)(r:List (List Tok)):jt (e::x::r)=e++cR 44::jt (x::r):=rfl
theorem HM:∀{E:List (List Tok)},(∀e∈E,1<=e.length)->E.length<=(jt E).length
 | [],_=>aa4 _
 | [e],h=>h e (by simp)
 |e::x::r,h=>by
  have:=HM (E:=x::r) λ y hy=>h y (by simp at hy⊢;exact .inr hy);rw[qx];simp only[aaS,aaT]at this⊢;omega
theorem P3(x y:aE)(r:List aE):Lib.join (x::y::r) [44,32]=x++([44]++([32]++Lib.join (y::r) [44,32])):=by rw[Lib.join_cons,Lib.join_cons];simp[Lib.joinTail]
theorem join_one(x:aE):Lib.join [x] [44,32]=x:=by rw[Lib.join_cons];simp[Lib.joinTail]
theorem CC:∀(E:List (aE×List Tok)),(∀e∈E,Rd false e.1 e.2)->Rd false (Lib.join (E.map (·.1)) [44,32]) (jt (E.map (·.2)))
 | [],_=>Rd.nil
 | [e],h=>by
  have:=h e (by simp);rw[List.map_cons,List.map_nil,join_one];exact this
 |e::x::r,h=>by
  have ih:=CC (x::r) λ y hy=>h y (by simp at hy⊢;exact .inr hy);rw[List.map_cons,List.map_cons,P3,List.map_cons,List.map_cons,qx];exact(h e (by simp)).app (Rd.thn (Rd.sign (by decide)) (Rd.thn (Rd.sp (by decide)) ih)) λ _=>cP (by decide)
theorem qw{W:List Tok}{cst:List Tok->PS->Cs×PS}{mp:Bool}:∀(E:List Itm) (f n:Nat) (L:List D) {s:PS} {c:UInt8} {us:List Tok},(∀e∈E,It cst mp e)->n+E.length<=40->E.length<f->s.e=0->
  iS mp=[c]->At W s.i (jt (E.map (·.ts))++cR c::us)->eQ W (cst W) mp f n L s=(L++E.flatMap (·.ds),s.adv (jt (E.map (·.ts))).length)
 | [],f,n,L,s,c,us,hE,hn,hf,h0,hc,ha=>by
  obtain⟨g,rfl⟩:∃g,f=g+1:=⟨f-1,by simp at hf;omega⟩
  rw[uw,aaN (λ x=>x.2 (by rw[hc];exact At.pF (t:=cR c) ha h0))];simp[jt,zQ]
 |e::r,f,n,L,s,c,us,hE,hn,hf,h0,hc,ha=>by
  obtain⟨g,rfl⟩:∃g,f=g+1:=⟨f-1,by simp at hf;omega⟩
  obtain⟨o1,o2,o3,o4⟩:=hE e (by simp);have hcs:c=93\/c=125:=by
   cases mp with
   |true=>have:[125]=[c]:=hc;injection this with this;exact .inr this.symm
   |false=>have:[93]=[c]:=hc;injection this with this;exact .inl this.symm
  have nend:¬gh W (iS mp) s:=by
   have hg:iS mp=[93]\/iS mp=[125]\/iS mp=[41]:=by rw[hc];rcases hcs with rfl|rfl;exact .inl rfl;exact .inr (.inl rfl)
   cases r with
   |nil=>exact o1.no ha hg
   |cons x r=>rw[List.map_cons,List.map_cons,qx,abg]at ha;exact o1.no ha hg
  rw[uw,aaR ⟨h0,nend⟩,aaN (by simp at hn;omega)]
  cases r with
  |nil=>
   have ha':At W s.i (e.ts++cR c::us):=ha;rw[o4 W s h0 ha'.left];have a2:At W (s.adv e.ts.length).i (cR c::us):=ha'.right;dsimp only;rw[sX a2 (by rcases hcs with rfl|rfl<;>decide) (by rcases hcs with rfl|rfl<;>decide)];have:=qw (W:=W) (cst:=cst) (mp:=mp) [] g (n+1) (L++e.ds) (s:=s.adv e.ts.length) (c:=c) (us:=us) (by simp) (by simp at hn⊢;omega) (by simp at hf⊢;omega) h0 hc a2;rw[this];simp[jt,zQ]
  |cons x r=>
   rw[List.map_cons,List.map_cons,qx,abg]at ha;rw[o4 W s h0 ha.left];have a2:At W (s.adv e.ts.length).i (cR 44::(jt (x.ts::r.map (·.ts))++cR c::us)):=by have:=ha.right;show At W (s.i+e.ts.length) _;simpa using this
   dsimp only;rw[J2 a2 h0];have a3:At W ((s.adv e.ts.length).adv 1).i (jt ((x::r).map (·.ts))++cR c::us):=a2.tail;have:=qw (W:=W) (cst:=cst) (mp:=mp) (x::r) g (n+1) (L++e.ds) (s:=(s.adv e.ts.length).adv 1) (c:=c) (us:=us) (λ y hy=>hE y (by simp at hy⊢;exact .inr hy)) (by simp at hn⊢;omega) (by simp at hf⊢;omega) h0 hc a3;rw[this,cZ,cZ,List.map_cons,List.map_cons,List.map_cons,qx];simp only[List.flatMap_cons,abg,aaS,aaT];congr 2;omega
theorem Gb{cst:List Tok->PS->Cs×PS}{mp:Bool}:∀(E:List Itm),(∀e∈E,It cst mp e)->(if mp=true then cC ((E.flatMap (·.ds)).map eB) else(E.flatMap (·.ds)).map eB)=E.map (·.tx)
 | [],_=>by cases mp<;>rfl
 |e::r,h=>by
  have ih:=Gb r λ y hy=>h y (by simp[hy]);obtain⟨_,_,o,_⟩:=h e (by simp)
  cases mp with
  |true=>
   rw[aaR rfl]at o ih⊢;obtain⟨a,b,o1,o2⟩:=o;rw[List.flatMap_cons,o1,List.map_cons,<-ih,o2];simp[cC]
  |false=>
   rw[aaN (by decide)]at o ih⊢;obtain⟨a,o1,o2⟩:=o;rw[List.flatMap_cons,o1,List.map_cons,<-ih,o2];simp
def Cn(n:Nat)(c:Cs):Prop:=∃ts:List Tok,QB ts/\Rd false (eB c.D) ts/\∀(W:List Tok) (s:PS),s.e=0->At W s.i ts->cp W n s=(c,s.adv ts.length)
theorem EI{t:Tok}(h:gI t)(hk:t.kind=2):gI ⟨2,[],t.n,0,0⟩:=by
 rcases h with⟨w,a,rfl,h⟩|⟨n,a,rfl,h1,h2⟩|⟨d,a,rfl,_⟩|⟨s,a,rfl,_⟩|⟨c,a,rfl,_⟩
 ·cases hk
 ·exact .inr (.inl ⟨n,0,rfl,h1,h2⟩)
 all_goals cases hk
theorem PU{t:Tok}(h:gI t)(hk:t.kind=3):gI ⟨3,[],0,t.d,0⟩:=by
 rcases h with⟨w,a,rfl,h⟩|⟨n,a,rfl,h1,h2⟩|⟨d,a,rfl,h⟩|⟨s,a,rfl,_⟩|⟨c,a,rfl,_⟩
 ·cases hk
 ·cases hk
 ·exact .inr (.inr (.inl ⟨d,0,rfl,h⟩))
 all_goals cases hk
theorem EJ{t:Tok}(h:gI t)(hk:t.kind=4):TH t.text:=by
 rcases h with⟨w,a,rfl,h⟩|⟨n,a,rfl,h1,h2⟩|⟨d,a,rfl,h⟩|⟨s,a,rfl,h⟩|⟨c,a,rfl,_⟩
 ·cases hk
 ·cases hk
 ·cases hk
 ·exact h
 ·cases hk
theorem CQ{t:Tok}{r:List Tok}(h:(t.kind==5)=false):QB (t::r):=⟨t,r,rfl,λ x=>by rw[x.1]at h;cases h⟩
theorem At.nk{W:List Tok}{s:PS}{t:Tok}{ts:List Tok}(h:At W s.i (t::ts))(k:Nat)(hk:(t.kind==k)=false):¬(bm W s).kind=k:=by rw[h.kd.1];simpa using hk
theorem Pr{cst:List Tok->PS->Cs×PS}{mp:Bool}:∀(E:List Itm),(∀e∈E,It cst mp e)->(E.flatMap (·.ds)).length=if mp=true then 2*E.length else E.length
 | [],_=>by simp
 |e::r,h=>by
  have ih:=Pr r λ y hy=>h y (by simp[hy]);obtain⟨_,_,o,_⟩:=h e (by simp);rw[List.flatMap_cons,aaS,ih]
  cases mp with
  |true=>obtain⟨a,b,o1,_⟩:=o;rw[o1];simp;omega
  |false=>obtain⟨a,o1,_⟩:=o;rw[o1];simp;omega
section
variable {W : List Tok} (hW : Wdn W) (hG : B0 W)
include hW in
theorem AT{n0 d:Nat}(hc:∀s,s.i<W.length->Mv W s (cp W n0 s).2)(hb:∀s,s.e=0->uc W s=false->(cp W n0 s).2.e≠0)(hg:∀s,s.i<W.length->s.e=0->(cp W n0 s).2.e=0->Cg d s (cp W n0 s).2 (cp W n0 s).1/\Cn n0 (cp W n0 s).1)(mp:Bool):
  ∀(f n:Nat) (L:List D) {s:PS},s.i<W.length->n<=40->(eQ W (cp W n0) mp f n L s).2.e=0->
   ∃E:List Itm,(∀e∈E,It (λ W=>cp W n0) mp e/\∀y∈e.ds,WC d y/\Kn y)/\n+E.length<=40/\(eQ W (cp W n0) mp f n L s).1=L++E.flatMap (·.ds)/\N3 (E.map (·.tx))+3000*s.i<=3000*(eQ W (cp W n0) mp f n L s).2.i
 |0,n,L,s,hs,hn,he=>⟨[],by simp,hn,by simp[eQ],by simp[eQ,N3]⟩
 |f+1,n,L,s,hs,hn,he=>by
  rw[uw]at he⊢;by_cases h1:s.e=0/\¬gh W (iS mp) s;rotate_left
  ·rw[aaN h1];exact⟨[],by simp,hn,by simp,by simp[N3]⟩
  rw[aaR h1]at he⊢;by_cases h2:n=40/\uc W s=true
  ·rw[aaR h2]at he;exact absurd he (hJ 4 (by decide))
  rw[aaN h2]at he⊢;have mi:Mv W s (mn W (cp W n0) mp s).2:=by
   unfold mn;have m1:=hc s hs;split
   ·have m2:=m1.trans (bX hW.toWds [58] m1.lt).toMv;exact m2.trans (hc _ m2.lt)
   ·exact m1
  have mp':=gz hW.toWds mi.lt;have ei:(mn W (cp W n0) mp s).2.e=0:=mp'.e ((nh hW.toWds hc mp f (n+1) _ mp'.lt).e he);have e1:(cp W n0 s).2.e=0:=by
   unfold mn at ei;split at ei
   ·exact CL ((hc _ (bX hW.toWds [58] (hc s hs).lt).lt).e ei)
   ·exact ei
  have hlt:n<40:=by
   rcases abn n 40 with h|h
   ·exact h
   ·exfalso
    cases hbg:uc W s with
    |true=>exact h2 ⟨by omega,hbg⟩
    |false=>exact hb s h1.1 hbg e1
  obtain⟨E,i1,i2,i3,i4⟩:=AT hc hb hg mp f (n+1) (L++(mn W (cp W n0) mp s).1) mp'.lt hlt he;obtain⟨⟨w1,w2,w3⟩,ts,o1,o2,o3⟩:=hg s hs h1.1 e1;have it:∃e:Itm,(It (λ W=>cp W n0) mp e/\∀y∈e.ds,WC d y/\Kn y)/\e.ds=(mn W (cp W n0) mp s).1/\e.tx.length+10+3000*s.i<=3000*(mn W (cp W n0) mp s).2.i:=by
   unfold mn at ei⊢
   cases mp with
   |false=>
    refine⟨⟨[(cp W n0 s).1.D],eB (cp W n0 s).1.D,ts⟩,⟨⟨o1,o2,by rw[aaN (by decide)];exact⟨_,rfl,rfl⟩,λ W' s' h0 ha=>?_⟩,λ y hy=>by rw[abK.1 hy];exact⟨w1,Cs.kn w2⟩⟩,rfl,w3⟩;unfold mn;rw[aaN (by decide)];dsimp only at ha⊢;rw[o3 W' s' h0 ha]
   |true=>
    rw[aaR rfl]at ei⊢;have m1:=hc s hs;have m2:=bX hW.toWds [58] m1.lt;have e2:=(hc _ m2.lt).e ei;obtain⟨⟨v1,v2,v3⟩,us,p1,p2,p3⟩:=hg _ m2.lt e2 ei;have l2:=m2.le;refine⟨⟨[(cp W n0 s).1.D,(cp W n0 (cH W [58] (cp W n0 s).2)).1.D],eB (cp W n0 s).1.D++[58,32]++eB (cp W n0 (cH W [58] (cp W n0 s).2)).1.D,ts++(cR 58::us)⟩,⟨⟨?_,?_,by rw[aaR rfl];exact⟨_,_,rfl,rfl⟩,λ W' s' h0 ha=>?_⟩,λ y hy=>?_⟩,rfl,by simp only[Ln]at w3 v3;simp only[aaS,aaT,abp];omega⟩
    ·obtain⟨t,r,rfl,ho⟩:=o1;exact⟨t,r++cR 58::us,rfl,ho⟩
    ·rw[abg];exact o2.app (Rd.thn (s:=[58]) (ts:=[cR 58]) (Rd.sign (by decide)) (Rd.thn (s:=[32]) (ts:=[]) (Rd.sp (by decide)) p2)) λ _=>cP (by decide)
    ·unfold mn;rw[aaR rfl];dsimp only at ha⊢;have a2:At W' (s'.adv ts.length).i (cR 58::us):=ha.right;rw[o3 W' s' h0 ha.left];dsimp only;rw[gv a2 h0,p3 W' ((s'.adv ts.length).adv 1) h0 a2.tail];dsimp only;rw[cZ,cZ];congr 2;simp;omega
    ·simp only[List.mem_cons,List.not_mem_nil,or_false]at hy;rcases hy with rfl|rfl
     ·exact⟨w1,Cs.kn w2⟩
     ·exact⟨v1,Cs.kn v2⟩
  obtain⟨e,k1,k2,k3⟩:=it;have l4:=mp'.le;refine⟨e::E,λ y hy=>?_,by simp;omega,by rw[i3,List.flatMap_cons,k2,abg],by simp only[N3,List.map_cons,List.sum_cons]at i4⊢;omega⟩;rcases List.mem_cons.1 hy with rfl|hy
  ·exact k1
  ·exact i1 y hy
include hW hG in
theorem uX{n d:Nat}{it:∀W:List Tok,PS->Cs×PS}(hp:∀W s,cp W n s=eZ W (it W) s)
  (hit:∀s,s.i<W.length->s.e=0->(bm W s).kind=5->(gh W [91] s\/gh W [123] s)->(it W s).2.e=0->Cg (d+1) s (it W s).2 (it W s).1/\∃ts,QB ts/\(∃c r,ts=cR c::r/\(c=91\/c=123))/\Rd false (eB (it W s).1.D) ts/\∀(W':List Tok) (s':PS),s'.e=0->At W' s'.i ts->it W' s'=((it W s).1,s'.adv ts.length))
  {s:PS} (hs:s.i<W.length) (h0:s.e=0) (h:(cp W n s).2.e=0):Cg (d+1) s (cp W n s).2 (cp W n s).1/\Cn n (cp W n s).1:=by
 rw[hp]at h⊢;have ht:=jM hW.toWds hs;have nx:(aZ s).i=s.i+1:=rfl;unfold eZ at h⊢;rw[aaN (λ x=>x h0)]at h⊢;by_cases h2:(bm W s).kind=2
 ·rw[aaR h2];have:=j7 (wq hW s);refine⟨⟨JD (wq hW s) Jb (by simp) ⟨by decide,by decide⟩,by show (1:Int)≠0;decide,by simp only[Ln,nx,Zh];omega⟩,[⟨2,[],(bm W s).n,0,0⟩],CQ rfl,?_,λ W' s' e0 ha=>?_⟩
  ·rw[Zh];exact Rd.tok (EI (iu hG (by rw[h2];decide)) h2)
  ·rw[hp];unfold eZ;rw[aaN (λ x=>x e0),aaR ha.kd.1,ha.kd.2.2.1];rfl
 rw[aaN h2]at h⊢;by_cases h3:(bm W s).kind=3
 ·rw[aaR h3];have hd:=UE hW s;have:=uM _ hd;have hd':(2:Nat)^64=18446744073709551616:=by decide
  refine⟨⟨JD VZ ⟨by omega,by omega⟩ (by simp) ⟨by decide,by decide⟩,by show (2:Int)≠0;decide,by simp only[Ln,nx,Zi,abe];omega⟩,[⟨3,[],0,(bm W s).d,0⟩],CQ rfl,?_,λ W' s' e0 ha=>?_⟩
  ·rw[Zi,abe];exact Rd.tok (PU (iu hG (by rw[h3];decide)) h3)
  ·rw[hp];unfold eZ;rw[aaN (λ x=>x e0),aaN (ha.nk 2 rfl),aaR ha.kd.1,ha.kd.2.2.2];rfl
 rw[aaN h3]at h⊢;by_cases h4:(bm W s).kind=4
 ·rw[aaR h4];have:=uL (bm W s).text;refine⟨⟨JD VZ Jb ht ⟨by decide,by decide⟩,by show (3:Int)≠0;decide,by simp only[Ln,nx,Zj];omega⟩,[⟨4,(bm W s).text,0,0,0⟩],CQ rfl,?_,λ W' s' e0 ha=>?_⟩
  ·rw[Zj];exact Rd.quote (EJ (iu hG (by rw[h4];decide)) h4)
  ·rw[hp];unfold eZ;rw[aaN (λ x=>x e0),aaN (ha.nk 2 rfl),aaN (ha.nk 3 rfl),aaR ha.kd.1,ha.kd.2.1];rfl
 rw[aaN h4]at h⊢;have name:Cg (d+1) s (aZ s) ⟨4,0,0,(bm W s).text,[]⟩:=⟨JD VZ Jb ht ⟨by decide,by decide⟩,by show (4:Int)≠0;decide,by simp only[Ln,nx,XV];omega⟩
 by_cases h1:(bm W s).kind=1
 ·rw[aaR h1]at h⊢;have tg:=lv (iu hG (s:=s) (by rw[h1];decide)) h1;by_cases h5:(bm W s).text=vQ\/(bm W s).text=rF
  ·rw[aaR h5];refine⟨name,[dB (bm W s).text],CQ rfl,by rw[XV];exact dY tg.1,λ W' s' e0 ha=>?_⟩;rw[hp];unfold eZ;rw[aaN (λ x=>x e0),aaN (ha.nk 2 rfl),aaN (ha.nk 3 rfl),aaN (ha.nk 4 rfl),aaR ha.kd.1,aaR (by rw[ha.kd.2.1];exact h5),ha.kd.2.1];rfl
  ·rw[aaN h5]at h⊢;obtain⟨_,_,hf,he⟩:=ld h;rw[he];refine⟨name,[dB (bm W s).text],CQ rfl,by rw[XV];exact dY tg.1,λ W' s' e0 ha=>?_⟩;rw[hp];unfold eZ;rw[aaN (λ x=>x e0),aaN (ha.nk 2 rfl),aaN (ha.nk 3 rfl),aaN (ha.nk 4 rfl),aaR ha.kd.1,aaN (by rw[ha.kd.2.1];exact h5),iF ha e0 hf];rfl
 rw[aaN h1]at h⊢;by_cases h5:gh W [91] s\/gh W [123] s
 ·rw[aaR h5]at h⊢;have k5:(bm W s).kind=5:=by rcases h5 with h5|h5<;>exact h5.2.1
  obtain⟨cg,ts,o1,⟨c,r,rfl,hcc⟩,o2,o3⟩:=hit s hs h0 k5 h5 h;refine⟨cg,_,o1,o2,λ W' s' e0 ha=>?_⟩;rw[hp];unfold eZ;rw[aaN (λ x=>x e0),aaN (ha.nk 2 rfl),aaN (ha.nk 3 rfl),aaN (ha.nk 4 rfl),aaN (ha.nk 1 rfl),aaR (by rcases hcc with rfl|rfl;exact .inl (ha.pF e0);exact .inr (ha.pF e0))];exact o3 W' s' e0 ha
 ·rw[aaN h5]at h;exact absurd h (hJ 2 (by decide))
include hW hG in
theorem rp:∀(n:Nat) {s:PS},s.i<W.length->s.e=0->(cp W n s).2.e=0->Cg (n+1) s (cp W n s).2 (cp W n s).1/\Cn n (cp W n s).1
 |0,s,hs,h0,h=>uX hW hG (n:=0) (d:=0) (it:=λ W s=>(c0,dx W 6 s)) (λ _ _=>rfl) (λ s hs _ _ _ e=>absurd e (hJ 6 (by decide))) hs h0 h
 |n+1,s,hs,h0,h=>uX hW hG (n:=n+1) (d:=n+1) (it:=λ W=>od W (cp W n)) (λ _ _=>rfl) (λ s hs h0 hk h5 e=>by
   have a1:=bU hW.toWds hs (by rw[hk];decide);have cm:∀s,s.i<W.length->Mv W s (cp W n s).2:=λ s hs=>(kz hW.toWds n hs).1;obtain⟨mp,hmp⟩:∃mp:Bool,decide (gh W [123] s)=mp:=⟨_,rfl⟩
   unfold od at e⊢;rw[hmp]at e⊢;have em:=nh hW.toWds cm mp (W.length+2) 0 [] a1.lt;have e1:=(bX hW.toWds (iS mp) em.lt).e e;have l1:=(bX hW.toWds (iS mp) em.lt).ad e;have nx:(aZ s).i=s.i+1:=rfl;obtain⟨E,i12,i2,i3,i4⟩:=AT hW cm (λ s h0 hb=>by cases n<;>exact GX h0 hb) (λ s hs h0 e=>rp n hs h0 e) mp (W.length+2) 0 [] a1.lt (by omega) e1;have i1:=λ e he=>(i12 e he).1;have wd:∀y∈E.flatMap (·.ds),WC (n+1) y/\Kn y:=λ y hy=>by
    obtain⟨e,he,hy⟩:=List.mem_flatMap.1 hy;exact(i12 e he).2 y hy
   have dl:=Pr E i1;have jt':=ET (E.map (·.tx));have tx:=Gb E i1;have jr:=CC (E.map λ e=>(e.tx,e.ts)) λ y hy=>by
    obtain⟨e,he,rfl⟩:=List.mem_map.1 hy;exact(i1 e he).2.1
   simp only[List.map_map,Function.comp_def]at jr;rw[i3,List.nil_append];have hl:∀e∈E.map (·.ts),1<=e.length:=λ y hy=>by
    obtain⟨e,he,rfl⟩:=List.mem_map.1 hy;exact(i1 e he).1.pos
   cases mp with
   |true=>
    have hb:gh W [123] s:=of_decide_eq_true hmp;rw[aaR hb];rw[aaR rfl]at tx;rw[aaR rfl]at dl;refine⟨⟨⟨6,0,0,[],_,_,rfl,VZ,Jb,by simp,by show (E.flatMap (·.ds)).length<=100;omega,.inr (.inr (by show (E.flatMap (·.ds)).length%2=0;omega)),wd⟩,by show (6:Int)≠0;decide,by simp only[Ln,Zl,tx,aaS,aaT,abp];omega⟩,cR 123::(jt (E.map (·.ts))++[cR 125]),⟨_,_,rfl,by decide⟩,⟨123,_,rfl,.inr rfl⟩,?_,λ W' s' e0 ha=>?_⟩
    ·rw[Zl,tx];rw[abg];exact Rd.thn (s:=[123]) (ts:=[cR 123]) (Rd.sign (by decide)) (jr.app (Rd.sign (by decide)) λ _=>cP (by decide))
    ·have b1:gh W' [123] s':=ha.pF e0;have a2:At W' (s'.adv 1).i (jt (E.map (·.ts))++cR 125::[]):=ha.tail;have hlen:=ha.len;have:=HM hl;have bw:=qw (W:=W') (cst:=λ W=>cp W n) (mp:=true) E (W'.length+2) 0 [] (s:=s'.adv 1) i1 i2 (by simp at hlen this;omega) e0 rfl a2;have a3:At W' ((s'.adv 1).adv (jt (E.map (·.ts))).length).i [cR 125]:=a2.right;rw[aa3 b1,aaR b1,dU,bw];dsimp only;rw[show iS true=[125]from rfl,gv a3 e0,List.nil_append,cZ,cZ];congr 2;simp;omega
   |false=>
    have hb:¬gh W [123] s:=of_decide_eq_false hmp;rw[aaN hb];rw[aaN (by decide)]at tx;rw[aaN (by decide)]at dl;refine⟨⟨⟨5,0,0,[],_,_,rfl,VZ,Jb,by simp,by show (E.flatMap (·.ds)).length<=100;omega,.inr (.inl ⟨by decide,by decide⟩),wd⟩,by show (5:Int)≠0;decide,by simp only[Ln,Zk,tx,aaS,aaT,abp];omega⟩,cR 91::(jt (E.map (·.ts))++[cR 93]),⟨_,_,rfl,by decide⟩,⟨91,_,rfl,.inl rfl⟩,?_,λ W' s' e0 ha=>?_⟩
    ·rw[Zk,tx];rw[abg];exact Rd.thn (s:=[91]) (ts:=[cR 91]) (Rd.sign (by decide)) (jr.app (Rd.sign (by decide)) λ _=>cP (by decide))
    ·have b1:¬gh W' [123] s':=λ x=>by have:=ha.kd.2.1;rw[x.2.2]at this;revert this;decide
     have a2:At W' (s'.adv 1).i (jt (E.map (·.ts))++cR 93::[]):=ha.tail;have hlen:=ha.len;have:=HM hl;have bw:=qw (W:=W') (cst:=λ W=>cp W n) (mp:=false) E (W'.length+2) 0 [] (s:=s'.adv 1) i1 i2 (by simp at hlen this;omega) e0 rfl a2;have a3:At W' ((s'.adv 1).adv (jt (E.map (·.ts))).length).i [cR 93]:=a2.right;rw[abf b1,aaN b1,dU,bw];dsimp only;rw[show iS false=[93]from rfl,gv a3 e0,List.nil_append,cZ,cZ];congr 2
     simp;omega) hs h0 h
end
def jx(b:Bool):List (List Tok)->List Tok
 | []=>[]
 |e::r=>e++(if b=true\/r≠[]then cR 44::jx b r else [])
theorem V9:∀E:List (List Tok),jx false E=jt E
 | []=>rfl
 | [e]=>by simp[jx,jt]
 |e::x::r=>by
  rw[qx,<-V9 (x::r)];rw[jx];rw[aaR (.inr (by simp))]
theorem P4{b:Bool}:∀{E:List (List Tok)},(∀e∈E,1<=e.length)->E.length<=(jx b E).length
 | [],_=>aa4 _
 |e::r,h=>by
  have ih:=P4 (b:=b) (E:=r) λ y hy=>h y (by simp[hy]);have:=h e (by simp);rw[jx];split
  ·simp only[aaS,aaT];omega
  ·rename_i hn;have:r=[]:=Classical.byContradiction λ x=>hn (.inr x);subst this;simp;omega
structure El where
 d:D
 ts:List Tok
def Eo(pr:D->aE)(one:List Tok->PS->D×PS)(e:El):Prop:=
 QB e.ts/\Rd false (pr e.d) e.ts/\∀(W:List Tok) (s:PS) (c:UInt8) (us:List Tok),s.e=0->(c=44\/c=41\/c=125)->At W s.i (e.ts++cR c::us)->
  one W s=(e.d,if c=44 then s.adv (e.ts.length+1)else s.adv e.ts.length)
theorem yp{pr:D->aE}{one:List Tok->PS->D×PS}{W:List Tok}{beg:PS->Bool}{b:Bool}{c:UInt8}(hc:c=41\/c=125){us:List Tok}:∀(E:List El) (f:Nat) (L:List D) {s:PS},(∀e∈E,Eo pr one e)->L.length+E.length<=30->E.length<f->s.e=0->
  At W s.i (jx b (E.map (·.ts))++cR c::us)->oU W [c] beg (one W) f L s=(L++E.map (·.d),s.adv (jx b (E.map (·.ts))).length)
 | [],f,L,s,hE,hn,hf,h0,ha=>by
  obtain⟨g,rfl⟩:∃g,f=g+1:=⟨f-1,by simp at hf;omega⟩
  rw[oU,aaN (λ x=>x.2 (At.pF (t:=cR c) ha h0))];simp[jx,zQ]
 |e::r,f,L,s,hE,hn,hf,h0,ha=>by
  obtain⟨g,rfl⟩:∃g,f=g+1:=⟨f-1,by simp at hf;omega⟩
  obtain⟨o1,o2,o4⟩:=hE e (by simp);rw[List.map_cons,jx,abg]at ha;rw[oU,aaR ⟨h0,o1.no ha (by rcases hc with rfl|rfl;exact .inr (.inr rfl);exact .inr (.inl rfl))⟩,aaN (by simp at hn;omega)];by_cases hb:b=true\/r.map (·.ts)≠[]
  ·rw[aaR hb]at ha;rw[o4 W s 44 _ h0 (.inl rfl) ha,aaR rfl];have a2:At W (s.adv e.ts.length).i (cR 44::(jx b (r.map (·.ts))++cR c::us)):=ha.right;have a3:At W (s.adv (e.ts.length+1)).i (jx b (r.map (·.ts))++cR c::us):=a2.tail;have:=yp (pr:=pr) (W:=W) (beg:=beg) hc r g (L++[e.d]) (s:=s.adv (e.ts.length+1)) (λ y hy=>hE y (by simp[hy])) (by simp at hn⊢;omega) (by simp at hf⊢;omega) h0 a3;dsimp only;rw[this,cZ,List.map_cons,List.map_cons,jx,aaR hb];simp only[abg,aaS,aaT,List.singleton_append];congr 2;omega
  ·rw[aaN hb,List.nil_append]at ha;have hr:r=[]:=by have:r.map (·.ts)=[]:=Classical.byContradiction λ x=>hb (.inr x);simpa using this
   subst hr;rw[o4 W s c _ h0 (.inr hc) ha,aaN (by rcases hc with rfl|rfl<;>decide)];have a2:At W (s.adv e.ts.length).i (cR c::us):=ha.right;have:=yp (pr:=pr) (one:=one) (W:=W) (beg:=beg) (b:=b) hc [] g (L++[e.d]) (s:=s.adv e.ts.length) (by simp) (by simp at hn⊢;omega) (by simp at hf⊢;omega) h0 a2;dsimp only;rw[this,List.map_cons,List.map_cons,List.map_nil,jx,aaN (by simpa using hb)];simp[jx,zQ]
def Ro(pr:D->aE)(one:List Tok->PS->D×PS)(E:List El):Prop:=(∀e∈E,Eo pr one e)/\E.length<=30
theorem tw{pr:D->aE}{one:List Tok->PS->D×PS}{W:List Tok}{beg:PS->Bool}{b:Bool}{c:UInt8}(hc:c=41\/c=125){us:List Tok}{E:List El}(hE:Ro pr one E){s:PS}(h0:s.e=0)(ha:At W s.i (jx b (E.map (·.ts))++cR c::us)):
  CY W [c] beg (one W) s=(E.map (·.d),s.adv ((jx b (E.map (·.ts))).length+1)):=by
 have hl:E.length<=(jx b (E.map (·.ts))).length:=by
  have:=P4 (b:=b) (E:=E.map (·.ts)) λ y hy=>by
   obtain⟨e,he,rfl⟩:=List.mem_map.1 hy;exact(hE.1 e he).1.pos
  simpa using this
 have a2:At W (s.adv (jx b (E.map (·.ts))).length).i (cR c::us):=ha.right;have hlen:=a2.len;have:=yp (pr:=pr) (beg:=beg) hc E (W.length+2) [] hE.1 (by simp;exact hE.2) (by simp[PS.adv]at hlen;omega) h0 ha;unfold CY;rw[this];dsimp only;rw[gv a2 h0,cZ,List.nil_append]
def Eg(pr:D->aE)(one:List Tok->PS->D×PS)(P:D->Prop)(m:D->Nat)(W:List Tok)(s:PS):Prop:=
 ∃e,(Eo pr one e/\P e.d)/\e.d=(one W s).1/\m e.d+3000*s.i<=3000*(one W s).2.i
theorem FT{P:D->Prop}{m:D->Nat}{pr:D->aE}{one:List Tok->PS->D×PS}{W:List Tok}{en:aE}{beg:PS->Bool}(hone:∀s,s.i<W.length->s.e=0->Ad W s (one W s).2)
  (hg:∀s,s.i<W.length->s.e=0->(one W s).2.e=0->Eg pr one P m W s) (hb:∀s,s.i<W.length->s.e=0->beg s=false->(one W s).2.e≠0):
  ∀(f:Nat) (L:List D) {s:PS},s.i<W.length->L.length<=30->(oU W en beg (one W) f L s).2.e=0->
   ∃E:List El,(∀e∈E,Eo pr one e/\P e.d)/\L.length+E.length<=30/\(oU W en beg (one W) f L s).1=L++E.map (·.d)/\jZ m (E.map (·.d))+3000*s.i<=3000*(oU W en beg (one W) f L s).2.i
 |0,L,s,hs,hl,he=>⟨[],by simp,hl,by simp[oU],by simp[oU,jZ]⟩
 |f+1,L,s,hs,hl,he=>by
  unfold oU at he⊢;by_cases h:s.e=0/\¬gh W en s;rotate_left
  ·rw[aaN h];exact⟨[],by simp,hl,by simp,by simp[jZ]⟩
  rw[aaR h]at he⊢;by_cases h2:L.length=30/\beg s=true
  ·rw[aaR h2]at he;exact absurd he (hJ 4 (by decide))
  rw[aaN h2]at he⊢;have a:=hone s hs h.1;have e1:=(wA (en:=en) (beg:=beg) hone f (L++[(one W s).1]) a.lt).e he;obtain⟨e,g1,g2,g3⟩:=hg s hs h.1 e1;have hlt:L.length<30:=by
   rcases abn L.length 30 with h3|h3
   ·exact h3
   ·exfalso
    cases hbg:beg s with
    |true=>exact h2 ⟨by omega,hbg⟩
    |false=>exact hb s hs h.1 hbg e1
  obtain⟨E,r1,r2,r3,r4⟩:=FT hone hg hb f (L++[(one W s).1]) a.lt (by simp;omega) he;refine⟨e::E,λ y hy=>?_,by simp at r2⊢;omega,by rw[r3,List.map_cons,g2,abg];rfl,by simp only[jZ,List.map_cons,List.sum_cons]at r4⊢;omega⟩;rcases List.mem_cons.1 hy with rfl|hy
  ·exact g1
  ·exact r1 y hy
def Rg(pr:D->aE)(one:List Tok->PS->D×PS)(P:D->Prop)(m:D->Nat)(s:PS)(r:List D×PS):Prop:=
 ∃E:List El,Ro pr one E/\(∀y∈E.map (·.d),P y)/\r.1=E.map (·.d)/\jZ m (E.map (·.d))+3000*s.i<=3000*r.2.i
theorem C1{P:D->Prop}{m:D->Nat}{pr:D->aE}{one:List Tok->PS->D×PS}{W:List Tok}(hW:Wds W){en:aE}{beg:PS->Bool}(hone:∀s,s.i<W.length->s.e=0->Ad W s (one W s).2)
  (hg:∀s,s.i<W.length->s.e=0->(one W s).2.e=0->Eg pr one P m W s) (hb:∀s,s.i<W.length->s.e=0->beg s=false->(one W s).2.e≠0) {s:PS} (hs:s.i<W.length) (he:(CY W en beg (one W) s).2.e=0):
  Rg pr one P m s (CY W en beg (one W) s):=by
 unfold CY at he⊢;have mv:=wA (en:=en) (beg:=beg) hone (W.length+2) [] hs;have nd:=bX hW en mv.lt;obtain⟨E,r1,r2,r3,r4⟩:=FT hone hg hb (W.length+2) [] hs (by simp) (nd.e he);refine⟨E,⟨λ e he=>(r1 e he).1,by simpa using r2⟩,λ y hy=>?_,by rw[r3];rfl,by have:=nd.le;dsimp only;omega⟩;obtain⟨e,he,rfl⟩:=List.mem_map.1 hy;exact(r1 e he).2
theorem Ro.join{pr:D->aE}{one:List Tok->PS->D×PS}{E:List El}(h:Ro pr one E):Rd false (Lib.join ((E.map (·.d)).map pr) [44,32]) (jx false (E.map (·.ts))):=by
 have jr:=CC (E.map λ e=>(pr e.d,e.ts)) λ y hy=>by
  obtain⟨e,he,rfl⟩:=List.mem_map.1 hy;exact(h.1 e he).2.1
 simp only[List.map_map,Function.comp_def]at jr⊢;rw[V9];exact jr
theorem sM{pr:D->aE}{one:List Tok->PS->D×PS}:∀(E:List El),(∀e∈E,Eo pr one e)->Rd true ((E.map (·.d)).map λ d=>[32]++([32]++(pr d++([44]++[10])))).flatten (jx true (E.map (·.ts)))
 | [],_=>Rd.nil
 |e::r,h=>by
  have ih:=sM r λ y hy=>h y (by simp[hy]);rw[List.map_cons,List.map_cons,List.flatten_cons,List.map_cons,jx,aaR (.inl rfl)];have k:Rd true ([32]++([32]++(pr e.d++([44]++[10])))) ([]++([]++(e.ts++([cR 44]++[])))):=
   Rd.thn (Rd.sp (by decide)) (Rd.thn (Rd.sp (by decide)) ((h e (by simp)).2.1.app (Rd.thn (Rd.sign (by decide)) (Rd.sp (by decide))) λ _=>cP (by decide)))
  have:=k.thn ih;simpa using this
def EO(h:Bool)(n:Int):List Tok:=if h=true then [⟨2,[],n,0,0⟩,cR 58]else []
def Ix(r:Int):List Tok:=if r=1 then [dB oA]else if r=2 then [dB pT]else []
theorem Cq{W:List Tok}{s:PS}{h:Bool}{n:Int}{v:Tok}{us:List Tok}(ha:At W s.i (EO h n++v::us))(hv:(v.kind==2)=false)(h0:s.e=0):
  jY W s=s.adv (EO h n).length/\decide ((bm W s).kind=2)=h/\(if (bm W s).kind=2 then(bm W s).n else 0)=(if h=true then n else 0):=by
 unfold jY
 cases h with
 |true=>
  have hk:=At.kd (s:=s) (t:=⟨2,[],n,0,0⟩) (ts:=cR 58::v::us) ha;have a2:At W (s.adv 1).i (cR 58::v::us):=At.tail (t:=⟨2,[],n,0,0⟩) ha;rw[aaR hk.1,aaR hk.1,aaR rfl,dU,gv a2 h0];exact⟨rfl,aa3 hk.1,hk.2.2.1⟩
 |false=>
  have hk:=At.kd (s:=s) (t:=v) (ts:=us) ha;have:¬(bm W s).kind=2:=by rw[hk.1];simpa using hv
  rw[aaN this,aaN this,aaN (by decide)];exact⟨rfl,abf this,rfl⟩
theorem Uk{W:List Tok}{s:PS}{r:Int}(hr:r=0\/r=1\/r=2){u:aE}{us:List Tok}(ha:At W s.i (Ix r++dB u::us))(hu:r=0->u≠oA/\u≠pT)(h0:s.e=0):
  pB W s=s.adv (Ix r).length/\Cu W s=r:=by
 unfold pB Cu cS;rcases hr with rfl|rfl|rfl
 ·have hk:=At.kd (s:=s) (t:=dB u) (ts:=us) ha;have n1:¬bP W oA s:=λ x=>(hu rfl).1 (by rw[<-x.2.2];exact hk.2.1.symm);have n2:¬bP W pT s:=λ x=>(hu rfl).2 (by rw[<-x.2.2];exact hk.2.1.symm);rw[aaN n1,aaN n1,aaN n2,aaN n2];exact⟨rfl,rfl⟩
 ·have k:bP W oA s:=At.pF (t:=dB oA) (ts:=dB u::us) ha h0;rw[aaR k,aaR k];exact⟨rfl,rfl⟩
 ·have k:bP W pT s:=At.pF (t:=dB pT) (ts:=dB u::us) ha h0;have n1:¬bP W oA s:=λ x=>absurd (x.2.2.symm.trans k.2.2) (by decide);rw[aaN n1,aaN n1,aaR k,aaR k];exact⟨rfl,rfl⟩
theorem Y6{h:Bool}{n:Int}(hn:-9223372036854775808<=n/\n<=9223372036854775807):Rd true (if h=true then cU n++[58,32]else []) (EO h n):=by
 unfold EO
 cases h with
 |true=>
  rw[aaR rfl,aaR rfl];exact Rd.app (s':=[58,32]) (ts:=[⟨2,[],n,0,0⟩]) (Rd.tok (.inr (.inl ⟨n,0,rfl,hn.1,hn.2⟩))) (Rd.thn (s:=[58]) (ts:=[cR 58]) (ts':=[]) (Rd.sign (by decide)) (Rd.sp (by decide))) λ _=>cP (by decide)
 |false=>exact Rd.nil
theorem gO{w:aE}(h1:∃c q,w=c::q/\k9 c=true)(h2:w.all fR=true)(h3:w.length<=120/\w.getLast?≠some 46/\qU w=false):gI (dB w):=
 .inl ⟨w,0,rfl,h1,λ c hc=>abu.1 h2 c hc,h3.1,h3.2.1,h3.2.2⟩
theorem qX{w:aE}(h:gI (dB w)):Rd true (w++[32]) ([dB w]++[]):=(dY h).app (Rd.sp (by decide)) λ _=>cP (by decide)
theorem QU:gI (dB oA):=gO ⟨_,_,rfl,by decide⟩ (by decide) ⟨by decide,by decide,by decide⟩
theorem QC:gI (dB pT):=gO ⟨_,_,rfl,by decide⟩ (by decide) ⟨by decide,by decide,by decide⟩
theorem Zq{r:Int}(hr:r=0\/r=1\/r=2):Rd true (if r=1 then [114,101,113,117,105,114,101,100,32]else if r=2 then [111,112,116,105,111,110,97,108,32]else []) (Ix r):=by
 rcases hr with rfl|rfl|rfl
 ·exact Rd.nil
 ·exact qX QU
 ·exact qX QC
section
variable {W : List Tok} (hW : Wdn W) (hG : B0 W)
def zD(h:Bool)(ts:List Tok):List Tok:=if h=true then cR 61::ts else []
include hW hG in
theorem MN{s:PS}(hs:s.i<W.length)(h:(kS W s).2.e=0):(WC 13 (kS W s).1.D/\s.i<=(kS W s).2.i)/\∃(hi:Bool) (ts:List Tok),(hi=true->(kS W s).1.k≠0/\(eB (kS W s).1.D).length+10+3000*s.i<=3000*(kS W s).2.i)/\hi=decide (gh W [61] s)/\Rd false (if hi=true then [32,61,32]++eB (kS W s).1.D else []) (zD hi ts)/\(hi=true->Br ([32,61,32]++eB (kS W s).1.D))/\
  ∀(W':List Tok) (s':PS) (c:UInt8) (us:List Tok),s'.e=0->c≠61->At W' s'.i (zD hi ts++cR c::us)->kS W' s'=((kS W s).1,s'.adv (zD hi ts).length)/\decide (gh W' [61] s')=hi:=by
 have mv:=(wg hW.toWds hs).le;unfold kS at h mv⊢;by_cases h1:gh W [61] s
 ·rw[aaR h1]at h mv⊢;have a:=bU hW.toWds hs (cF h1 (by decide));obtain⟨⟨g1,g2,g3⟩,ts,o1,o2,o3⟩:=rp hW hG 12 a.lt (by show s.e=0;exact h1.1) h;have nx:(aZ s).i=s.i+1:=rfl;refine⟨⟨g1,mv⟩,true,ts,λ _=>⟨g2,by simp only[Ln,nx]at g3;omega⟩,(aa3 h1).symm,?_,λ _=>⟨32,_,rfl,by decide⟩,λ W' s' c us e0 hc ha=>?_⟩
  ·rw[aaR rfl];exact Rd.thn (s:=[32,61,32]) (ts:=[]++([cR 61]++[])) (Rd.thn (s:=[32]) (s':=[61,32]) (Rd.sp (by decide)) (Rd.thn (s:=[61]) (Rd.sign (by decide)) (Rd.sp (by decide)))) o2
  ·have k:gh W' [61] s':=At.pF (t:=cR 61) (ts:=ts++cR c::us) ha e0;have a2:At W' (s'.adv 1).i (ts++cR c::us):=At.tail (t:=cR 61) ha;rw[aaR k,dU,o3 W' (s'.adv 1) e0 a2.left,cZ];refine⟨?_,aa3 k⟩;congr 2;simp[zD];omega
 ·rw[aaN h1]at h mv⊢;refine⟨⟨⟨0,0,0,[],true,[],rfl,VZ,Jb,by simp,by simp,.inl rfl,λ _ h=>by cases h⟩,mv⟩,false,[],(λ x=>by cases x),(abf h1).symm,Rd.nil,(λ x=>by cases x),λ W' s' c us e0 hc ha=>?_⟩;have ha':At W' s'.i (cR c::us):=ha;have k:¬gh W' [61] s':=λ x=>by
   have:=ha'.kd.2.1;rw[x.2.2]at this;injection this with this
   exact hc this.symm
  rw[aaN k];exact⟨rfl,abf k⟩
theorem Ie{W:List Tok}{s:PS}{c:UInt8}{us:List Tok}(h0:s.e=0)(hc:c=44\/c=41\/c=125)(ha:At W s.i (cR c::us)):fS W s=if c=44 then s.adv 1 else s:=by
 rcases hc with rfl|rfl|rfl
 ·rw[J2 ha h0];rfl
 ·rw[sX ha (by decide) (by decide)];rfl
 ·rw[sX ha (by decide) (by decide)];rfl
include hW hG in
theorem HD{s:PS}(hs:s.i<W.length)(he:(ff W s).2.e=0):Eg sd ff WF mF W s:=by
 have h1:=Cr hW.toWds hs;have h2:=Ct hW.toWds h1.lt;have h3:=iA hW.toWds 12 h2.lt;have h4:=cz hW.toWds bu h3.lt;have h5:=wg hW.toWds h4.lt;have h6:=gz hW.toWds h5.lt;have e5:(kS W (bR W bu (eU W 12 (pB W (jY W s))).2).2).2.e=0:=h6.e he;have e4:=h5.e e5;have e3:=h4.e e4;have e1:(jY W s).e=0:=h2.e (h3.e e3);obtain⟨g1,u,tt,t1,t2,t3⟩:=qd hW.toWds hG 12 h2.lt e3;have ts:=nC hW.toWds (n:=12) (by decide) h2.lt;have nl:=pL hW.toWds bu h3.lt;obtain⟨m1,m2,m3,m4⟩:=ld e4;obtain⟨⟨w1,w2⟩,hi,tc,w3,c1,c2,c3,c4⟩:=MN hW hG h4.lt e5;have ng:=lv (iu hG (s:=(eU W 12 (pB W (jY W s))).2) (by rw[m2];decide)) m2;obtain⟨h,hh⟩:∃h:Bool,decide ((bm W s).kind=2)=h:=⟨_,rfl⟩
 obtain⟨n,hn⟩:∃n:Int,(if (bm W s).kind=2 then(bm W s).n else 0)=n:=⟨_,rfl⟩
 have hid:Jd n:=by rw[<-hn];split;exact wq hW s;exact VZ
 have hn0:(if h=true then n else 0)=n:=by
  rw[<-hn,<-hh];by_cases k:(bm W s).kind=2
  ·simp[k]
  ·simp[k]
 obtain⟨r,hr⟩:∃r:Int,Cu W (jY W s)=r:=⟨_,rfl⟩
 have hr3:r=0\/r=1\/r=2:=by
  rw[<-hr];unfold Cu;split
  ·exact .inr (.inl rfl)
  ·split
   ·exact .inr (.inr rfl)
   ·exact .inl rfl
 have hu:r=0->u≠oA/\u≠pT:=by
  intro r0;have k1:¬bP W oA (jY W s):=λ x=>by rw[<-hr]at r0;unfold Cu at r0;rw[aaR x]at r0;revert r0;decide
  have k2:¬bP W pT (jY W s):=λ x=>by rw[<-hr]at r0;unfold Cu at r0;rw[aaN k1,aaR x]at r0;revert r0;decide
  have f2:pB W (jY W s)=jY W s:=by unfold pB cS;rw[aaN k1,aaN k2]
  rcases t2 with t2|t2
  ·have kd:(bm W (jY W s)).kind=1:=by
    have:=e3;rw[f2]at this;exact Classical.byContradiction λ x=>by
     refine absurd this ?_;show (eU W 12 (jY W s)).2.e≠0;exact wH (abf λ y=>x y.1)
   rw[f2]at t2;exact⟨λ x=>k1 ⟨e1,kd,t2.symm.trans x⟩,λ x=>k2 ⟨e1,kd,t2.symm.trans x⟩⟩
  ·rw[t2];exact⟨by decide,by decide⟩
 have l1:=h1.le;have l2:=h2.le;have l6:=h6.le;have ln:(ff W s).2=fS W (kS W (bR W bu (eU W 12 (pB W (jY W s))).2).2).2:=rfl;obtain⟨x,hx⟩:∃x,x=(ff W s).1:=⟨_,rfl⟩
 unfold Eg;rw[<-hx];unfold ff at hx;dsimp only at hx;rw[hh,hn,hr,m4]at hx;rw[m4]at c1 c2 c3 c4 w1 w2 w3 nl l6 ln;dsimp only at c1 c2 c3 c4 w1 w2 w3 nl l6 ln hx;rw[<-c1]at hx;generalize hT:(eU W 12 (pB W (jY W s))).1=T at *;generalize hM:(bm W (eU W 12 (pB W (jY W s))).2).text=M at *;generalize hC:(kS W (aZ (eU W 12 (pB W (jY W s))).2)).1=C at *;refine⟨⟨fD h n r T M hi C.k C.n C.u C.s C.l.isEmpty C.l,EO h n++(Ix r++((dB u::tt)++([dB M]++zD hi tc)))⟩,⟨⟨?_,?_,λ W' s' c us e0 hc ha=>?_⟩,⟨_,_,_,_,_,_,_,_,_,_,_,_,rfl,hid,ts,nl,λ h=>(w3 h).1,w1.le (by decide)⟩⟩,hx.symm,?_⟩
 ·-- it begins with no sign
  show QB (EO h n++(Ix r++((dB u::tt)++([dB M]++zD hi tc))));unfold EO Ix;split
  ·exact CQ rfl
  ·rcases hr3 with rfl|rfl|rfl<;>exact CQ rfl
 ·show Rd false (sd (fD h n r T M hi C.k C.n C.u C.s C.l.isEmpty C.l)) _;rw[yf];have k1:=(Y6 (h:=h) hid).thn ((Zq hr3).thn t1);have k2:=k1.app (Rd.sp (b:=true) (c:=32) (by decide)) λ _=>cP (by decide);have k3:=k2.thn (dY ng.1)
  cases hi with
  |true=>
   have k4:=k3.app c2 (λ _=>c3 rfl);simpa using k4
  |false=>
   have:Rd false _ _:=k3;simpa[zD]using this
 ·have a1:At W' s'.i (EO h n++(Ix r++(dB u::(tt++([dB M]++(zD hi tc++cR c::us)))))):=by simpa using ha
  have f1:jY W' s'=s'.adv (EO h n).length/\decide ((bm W' s').kind=2)=h/\(if (bm W' s').kind=2 then(bm W' s').n else 0)=(if h=true then n else 0):=by
   rcases hr3 with rfl|rfl|rfl
   ·exact Cq (v:=dB u) a1 rfl e0
   ·exact Cq (v:=dB oA) a1 rfl e0
   ·exact Cq (v:=dB pT) a1 rfl e0
  have a2:At W' (s'.adv (EO h n).length).i (Ix r++(dB u::(tt++([dB M]++(zD hi tc++cR c::us))))):=a1.right;have f2:=Uk hr3 a2 hu e0;have a3:At W' ((s'.adv (EO h n).length).adv (Ix r).length).i ((dB u::tt)++([dB M]++(zD hi tc++cR c::us))):=a2.right;have a4:At W' (((s'.adv (EO h n).length).adv (Ix r).length).adv (tt.length+1)).i (dB M::(zD hi tc++cR c::us)):=a3.right;have a5:At W' ((((s'.adv (EO h n).length).adv (Ix r).length).adv (tt.length+1)).adv 1).i (zD hi tc++cR c::us):=a4.tail;have f5:=c4 W' _ c us (show ((((s'.adv (EO h n).length).adv (Ix r).length).adv (tt.length+1)).adv 1).e=0 from e0) (by rcases hc with rfl|rfl|rfl<;>decide) a5;have a6:At W' (((((s'.adv (EO h n).length).adv (Ix r).length).adv (tt.length+1)).adv 1).adv (zD hi tc).length).i (cR c::us):=a5.right;have f6:=Ie (show (((((s'.adv (EO h n).length).adv (Ix r).length).adv (tt.length+1)).adv 1).adv (zD hi tc).length).e=0 from e0) hc a6;unfold ff;dsimp only;rw[f1.1,f1.2.1,f1.2.2,hn0,f2.1,f2.2,t3 W' _ (show ((s'.adv (EO h n).length).adv (Ix r).length).e=0 from e0) a3.left];dsimp only;rw[iF a4 e0 m3];dsimp only;rw[f5.1,f5.2];dsimp only;rw[f6];simp only[cZ];refine Prod.ext rfl ?_;dsimp only;split<;>congr 1<;>simp<;>omega
 ·show mF (fD h n r T M hi C.k C.n C.u C.s C.l.isEmpty C.l)+_<=_;rw[mF,yf,ln];have db:=j7 hid;have nx:∀s:PS,(aZ s).i=s.i+1:=λ _=>rfl;simp only[nx,Ln,aaS,aaT,abp]at g1 w2 w3 l6⊢;have i1:(if h=true then cU n++[58,32]else []).length<=102:=by
   split
   ·simp only[aaS,aaT,abp];omega
   ·simp
  have i2:(if r=1 then([114,101,113,117,105,114,101,100,32]:aE)else if r=2 then [111,112,116,105,111,110,97,108,32]else []).length<=9:=by
   repeat' split
   all_goals simp
  cases hi with
  |true=>
   have:=(w3 rfl).2;simp only[if_true,aaS,aaT,abp];omega
  |false=>
   simp only[Bool.false_eq_true,if_false,abp];omega
end
section
variable {W : List Tok} (hW : Wdn W) (hG : B0 W)
include hW hG in
theorem pz{en:aE}{s:PS}(hs:s.i<W.length)(he:(eI W en s).2.e=0):Rg sd ff WF mF s (eI W en s):=
 C1 hW.toWds (pr:=sd) (one:=ff) (beg:=vU W) (λ s hs _=>xz hW.toWds hs) (λ s hs _ e=>HD hW hG hs e) (λ s hs _ e=>MM hW hs e) hs he
def QK:D->aE
 | .g [.s nm,.b h,.i _ n]=>nm++(if h=true then [32,61,32]++cU n else [])
 |_=>[]
include hW hG in
theorem E3{s:PS}(hs:s.i<W.length)(he:(eJ W s).2.e=0):Eg QK eJ WM mM W s:=by
 have h1:=cz hW.toWds bu hs;have h2:=CH hW.toWds h1.lt;have h3:=gz hW.toWds h2.lt;have e2:(xR W (bR W bu s).2).2.2.e=0:=h3.e he;obtain⟨m1,m2,m3,m4⟩:=ld (h2.e e2);have ng:=lv (iu hG (s:=s) (by rw[m2];decide)) m2;have nl:=pL hW.toWds bu hs;have l2:=h2.le;have l3:=h3.le;have ln:(eJ W s).2=fS W (xR W (bR W bu s).2).2.2:=rfl;obtain⟨x,hx⟩:∃x,x=(eJ W s).1:=⟨_,rfl⟩
 unfold Eg;rw[<-hx];unfold eJ at hx;rw[m4]at hx e2 nl l2 l3 ln;dsimp only at hx e2 nl l2 l3 ln;have cas:∃(h:Bool) (n:Int) (ts:List Tok),(xR W (aZ s)).1=h/\(xR W (aZ s)).2.1=n/\Rd false (if h=true then [32,61,32]++cU n else []) ts/\(h=true->ts=[cR 61,⟨2,[],n,0,0⟩])/\(h=false->ts=[]/\n=0)/\Jd n:=by
  unfold xR at e2⊢;by_cases k1:gh W [61] (aZ s)
  ·rw[aaR k1]at e2⊢;by_cases k2:(bm W (aZ (aZ s))).kind=2
   ·rw[aaR k2];refine⟨true,_,[cR 61,⟨2,[],(bm W (aZ (aZ s))).n,0,0⟩],rfl,rfl,?_,λ _=>rfl,(λ x=>by cases x),wq hW _⟩;rw[aaR rfl];exact Rd.thn (s:=[32,61,32]) (ts:=[]++([cR 61]++[])) (Rd.thn (s:=[32]) (s':=[61,32]) (Rd.sp (by decide)) (Rd.thn (s:=[61]) (Rd.sign (by decide)) (Rd.sp (by decide)))) (Rd.tok (EI (iu hG (by rw[k2];decide)) k2))
   ·rw[aaN k2]at e2;exact absurd e2 (hJ 2 (by decide))
  ·rw[aaN k1];exact⟨false,0,[],rfl,rfl,Rd.nil,(λ x=>by cases x),λ _=>⟨rfl,rfl⟩,VZ⟩
 obtain⟨h,n,ts,c1,c2,c3,c4,c5,hn⟩:=cas;rw[c1,c2]at hx;refine⟨⟨mD (bm W s).text h n,dB (bm W s).text::ts⟩,⟨⟨CQ rfl,?_,λ W' s' c us e0 hc ha=>?_⟩,⟨_,_,_,rfl,nl,hn⟩⟩,hx.symm,?_⟩
 ·show Rd false ((bm W s).text++_) _
  cases h with
  |true=>exact(dY ng.1).app c3 λ _=>⟨32,_,rfl,by decide⟩
  |false=>
   rw[(c5 rfl).1,aaN (by decide),abo];exact dY ng.1
 ·have a1:At W' s'.i (dB (bm W s).text::(ts++cR c::us)):=ha;have a2:At W' (s'.adv 1).i (ts++cR c::us):=a1.tail;unfold eJ;rw[iF a1 e0 m3];dsimp only;have key:xR W' (s'.adv 1)=(h,n,(s'.adv 1).adv ts.length):=by
   unfold xR
   cases h with
   |true=>
    obtain rfl:=c4 rfl;have a3:At W' (s'.adv 1).i (cR 61::⟨2,[],n,0,0⟩::cR c::us):=a2;have k1:gh W' [61] (s'.adv 1):=a3.pF e0;have a4:At W' ((s'.adv 1).adv 1).i (⟨2,[],n,0,0⟩::cR c::us):=a3.tail;rw[aaR k1,dU,aaR a4.kd.1,a4.kd.2.2.1];rfl
   |false=>
    obtain⟨rfl,rfl⟩:=c5 rfl;have a3:At W' (s'.adv 1).i (cR c::us):=a2;rw[aaN (λ x=>by
     have:=a3.kd.2.1;rw[x.2.2]at this;injection this with this
     rcases hc with rfl|rfl|rfl<;>revert this<;>decide)];rfl
  rw[key];dsimp only;have a5:At W' ((s'.adv 1).adv ts.length).i (cR c::us):=a2.right;rw[Ie (by exact e0) hc a5];refine Prod.ext rfl ?_;simp only[cZ,aaT];split<;>congr 1<;>omega
 ·rw[ln];have hd:=j7 hn;have nx:(aZ s).i=s.i+1:=rfl;simp only[mM,mD,te,aaS,aaT,abp];have i1:(if h=true then [32,61,32]++cU n else []).length<=103:=by
   split
   ·simp only[aaS,aaT,abp];omega
   ·simp
  omega
include hW hG in
theorem CI{s:PS}(hs:s.i<W.length)(he:(kH W s).2.e=0):Rg QK eJ WM mM s (kH W s):=
 C1 hW.toWds (pr:=QK) (one:=eJ) (beg:=B3 W) (λ s hs _=>uz hW.toWds hs) (λ s hs _ e=>E3 hW hG hs e) (λ s hs h0 e=>HS hW hs h0 e) hs he
def yg:D->aE
 | .g [.s nm,.b ow,.s ret,.l _ al,.l _ tl]=>
  (if ow=true then dW++[32]else [])++ret++[32]++nm++[40]++fh al++[41]++(if tl=[]then []else [32]++(qb++([32]++([40]++(fh tl++[41])))))
 |_=>[]
theorem Nn:gI (dB dW):=gO ⟨_,_,rfl,by decide⟩ (by decide) ⟨by decide,by decide,by decide⟩
theorem Ow:gI (dB kY):=gO ⟨_,_,rfl,by decide⟩ (by decide) ⟨by decide,by decide,by decide⟩
theorem N0:gI (dB qb):=gO ⟨_,_,rfl,by decide⟩ (by decide) ⟨by decide,by decide,by decide⟩
def H5(b:Bool):List Tok:=if b=true then [dB dW]else []
theorem dc{W:List Tok}{s:PS}{w:aE}{t:Tok}{us:List Tok}(ha:At W s.i (t::us))(h:t.text≠w):¬bP W w s:=λ x=>h (by rw[<-ha.kd.2.1];exact x.2.2)
include hW hG in
theorem QY{s:PS}(hs:s.i<W.length)(he:(lP W s).2.e=0):((lP W s).1.length+10+3000*s.i<=3000*(lP W s).2.i/\(lP W s).1.length<=100000000)/\∃(u:aE) (ts:List Tok),Rd false (lP W s).1 (dB u::ts)/\(u=(bm W s).text\/u=[105,56])/\(bm W s).kind=1/\
  ∀(W':List Tok) (s':PS),s'.e=0->At W' s'.i (dB u::ts)->lP W' s'=((lP W s).1,s'.adv (ts.length+1)):=by
 unfold lP at he⊢;by_cases h1:bP W kY s
 ·rw[aaR h1];refine⟨by simp only[aZ,aaT,abp];omega,kY,[],dY Ow,.inl h1.2.2.symm,h1.2.1,λ W' s' e0 ha=>?_⟩;have k:bP W' kY s':=At.pF (t:=dB kY) ha e0;rw[aaR k];rfl
 ·rw[aaN h1]at he⊢;have kd:(bm W s).kind=1:=Classical.byContradiction λ x=>absurd he (wH (abf λ y=>x y.1));have e0:s.e=0:=(iA hW.toWds 12 hs).e he;obtain⟨g,u,ts,t1,t2,t3⟩:=qd hW.toWds hG 12 hs he;refine⟨⟨g,nC hW.toWds (by decide) hs⟩,u,ts,t1,t2,kd,λ W' s' e0' ha=>?_⟩;have hu:u≠kY:=by
   rcases t2 with t2|t2
   ·rw[t2];exact λ x=>h1 ⟨e0,kd,x⟩
   ·rw[t2];decide
  rw[aaN (dc (t:=dB u) ha hu)];exact t3 W' s' e0' ha
include hW hG in
theorem NZ{s:PS}(hs:s.i<W.length)(he:(mw W s).2.e=0):Rg sd ff WF mF s (mw W s):=by
 unfold mw at he⊢;by_cases h1:bP W qb s
 ·rw[aaR h1]at he⊢;have a:=bU hW.toWds hs (cF h1 (by decide));have a2:=bX hW.toWds [40] a.lt;obtain⟨E,r1,r2,r3,r4⟩:=pz hW hG a2.lt he;have l1:=a.le;have l2:=a2.le;exact⟨E,r1,r2,r3,by omega⟩
 ·rw[aaN h1];exact⟨[],⟨by simp,by simp⟩,by simp,rfl,by simp[jZ]⟩
def Ku(E:List El):List Tok:=if E=[]then []else dB qb::cR 40::(jx false (E.map (·.ts))++[cR 41])
theorem Vb{E:List El}(hE:Ro sd ff E){W:List Tok}{s:PS}{c:UInt8}{us:List Tok}(e0:s.e=0)(ha:At W s.i (Ku E++cR c::us)):mw W s=(E.map (·.d),s.adv (Ku E).length):=by
 unfold mw Ku at *;by_cases h:E=[]
 ·rw[aaR h]at ha⊢;have ha':At W s.i (cR c::us):=ha;rw[aaN (λ x=>by have:=ha'.kd.1;rw[x.2.1]at this;cases this),h];rfl
 ·rw[aaN h]at ha⊢;have a1:At W s.i (dB qb::cR 40::(jx false (E.map (·.ts))++cR 41::cR c::us)):=by simpa using ha
  have k:bP W qb s:=a1.pF e0;have a2:At W (s.adv 1).i (cR 40::(jx false (E.map (·.ts))++cR 41::cR c::us)):=a1.tail;have a3:At W ((s.adv 1).adv 1).i (jx false (E.map (·.ts))++cR 41::cR c::us):=a2.tail;rw[aaR k,dU,gv a2 e0];unfold eI;rw[tw (.inl rfl) hE (by exact e0) a3];simp only[cZ];congr 2;simp;omega
include hW hG in
theorem E5{s:PS}(hs:s.i<W.length)(h0:s.e=0)(he:(eK W s).2.e=0):Eg yg eK zP Zc W s:=by
 have h1:=tE hW.toWds 1 dW (by decide) hs;have h2:=Ip hW.toWds h1.lt;have h3:=cz hW.toWds bu h2.lt;have h4:=bX hW.toWds [40] h3.lt;have h5:=jj hW.toWds [41] h4.lt;have h6:=Da hW.toWds h5.lt;have h7:=gz hW.toWds h6.lt;have e6:(mw W (eI W [41] (cH W [40] (bR W bu (lP W (cS W 1 dW s)).2).2)).2).2.e=0:=h7.e he;have e5:=h6.e e6;have e3:=h4.e (h5.e e5);have e2:=h3.e e3;obtain⟨rg,u,tt,r1,r2,r3,r4⟩:=QY hW hG h1.lt e2;have nl:=pL hW.toWds bu h2.lt;have l1:=h1.le;have l4:=h4.le;have l7:=h7.le;obtain⟨m1,m2,m3,m4⟩:=ld e3;have ng:=lv (iu hG (s:=(lP W (cS W 1 dW s)).2) (by rw[m2];decide)) m2;obtain⟨A,a1,a3,a2,a4⟩:=pz hW hG h4.lt e5;obtain⟨T,t1,t3,t2,t4⟩:=NZ hW hG h5.lt e6;have ln:(eK W s).2=fS W (mw W (eI W [41] (cH W [40] (bR W bu (lP W (cS W 1 dW s)).2).2)).2).2:=rfl;obtain⟨ow,how⟩:∃ow:Bool,decide (bP W dW s)=ow:=⟨_,rfl⟩
 have hu:ow=false->u≠dW:=by
  intro x;rw[x]at how;have k:=of_decide_eq_false how;have sk:cS W 1 dW s=s:=by unfold cS;rw[aaN k]
  rw[sk]at r2 r3;rcases r2 with r2|r2
  ·rw[r2];exact λ y=>k ⟨h0,r3,y⟩
  ·rw[r2];decide
 obtain⟨x,hx⟩:∃x,x=(eK W s).1:=⟨_,rfl⟩
 unfold Eg;rw[<-hx];unfold eK at hx;dsimp only at hx;rw[how,m4]at hx;rw[m4]at a2 t2 a4 t4 nl l4 l7 ln;dsimp only at a2 t2 a4 t4 nl l4 l7 ln hx;rw[a2,t2]at hx;generalize (lP W (cS W 1 dW s)).1=R at *;generalize (bm W (lP W (cS W 1 dW s)).2).text=M at *;refine⟨⟨Uw M ow R (A.map (·.d)).isEmpty (A.map (·.d)) (T.map (·.d)).isEmpty (T.map (·.d)),H5 ow++((dB u::tt)++(dB M::cR 40::(jx false (A.map (·.ts))++(cR 41::Ku T))))⟩,⟨⟨?_,?_,λ W' s' c us e0 hc ha=>?_⟩,⟨_,_,_,_,_,_,_,rfl,nl,rg.2,by have:=a1.2;simp;omega,by have:=t1.2;simp;omega,a3,t3⟩⟩,hx.symm,?_⟩
 ·show QB (H5 ow++_);unfold H5;cases ow<;>exact CQ rfl
 ·show Rd false (yg (Uw M ow R (A.map (·.d)).isEmpty (A.map (·.d)) (T.map (·.d)).isEmpty (T.map (·.d)))) _;have k0:Rd true (if ow=true then dW++[32]else []) (H5 ow):=by
   unfold H5
   cases ow with
   |true=>rw[aaR rfl,aaR rfl];exact qX Nn
   |false=>exact Rd.nil
  have k1:=(k0.thn r1).app (Rd.sp (b:=true) (c:=32) (by decide)) λ _=>cP (by decide);have k2:=(k1.thn (dY ng.1)).app (Rd.sign (b:=true) (c:=40) (by decide)) λ _=>cP (by decide);have k3:=(k2.thn a1.join).app (Rd.sign (b:=true) (c:=41) (by decide)) λ _=>cP (by decide);have k4:Rd false (if T.map (·.d)=[]then []else [32]++(qb++([32]++([40]++(fh (T.map (·.d))++[41]))))) (Ku T):=by
   unfold Ku;by_cases h:T=[]
   ·rw[aaR h,h];exact Rd.nil
   ·rw[aaN h,aaN (by simpa using h)]
    exact Rd.thn (ts:=[]) (Rd.sp (by decide)) (Rd.app (ts:=[dB qb]) (ts':=cR 40::(jx false (T.map (·.ts))++[cR 41])) (dY N0) (Rd.thn (ts:=[]) (Rd.sp (by decide)) (Rd.thn (ts:=[cR 40]) (Rd.sign (by decide)) (t1.join.app (Rd.sign (by decide)) λ _=>cP (by decide)))) λ _=>cP (by decide))
  have k5:=k3.thn k4;show Rd false ((if ow=true then dW++[32]else [])++R++[32]++M++[40]++fh (A.map (·.d))++[41]++(if T.map (·.d)=[]then []else _)) _;unfold fh at k5⊢;simpa using k5
 ·have b1:At W' s'.i (H5 ow++(dB u::(tt++(dB M::cR 40::(jx false (A.map (·.ts))++(cR 41::(Ku T++cR c::us))))))):=by simpa using ha
  have f1:cS W' 1 dW s'=s'.adv (H5 ow).length/\decide (bP W' dW s')=ow:=by
   unfold cS
   cases ow with
   |true=>
    have k:bP W' dW s':=At.pF (t:=dB dW) (ts:=dB u::_) b1 e0;rw[aaR k];exact⟨rfl,aa3 k⟩
   |false=>
    have k:¬bP W' dW s':=dc (t:=dB u) (us:=tt++_) b1 (hu rfl);rw[aaN k];exact⟨rfl,abf k⟩
  have b2:At W' (s'.adv (H5 ow).length).i ((dB u::tt)++(dB M::cR 40::(jx false (A.map (·.ts))++(cR 41::(Ku T++cR c::us))))):=b1.right;have b3:At W' ((s'.adv (H5 ow).length).adv (tt.length+1)).i (dB M::cR 40::(jx false (A.map (·.ts))++(cR 41::(Ku T++cR c::us)))):=b2.right;have b4:At W' (((s'.adv (H5 ow).length).adv (tt.length+1)).adv 1).i (cR 40::(jx false (A.map (·.ts))++(cR 41::(Ku T++cR c::us)))):=b3.tail;have b5:At W' ((((s'.adv (H5 ow).length).adv (tt.length+1)).adv 1).adv 1).i (jx false (A.map (·.ts))++cR 41::(Ku T++cR c::us)):=b4.tail;have b6:At W' (((((s'.adv (H5 ow).length).adv (tt.length+1)).adv 1).adv 1).adv (jx false (A.map (·.ts))).length).i (cR 41::(Ku T++cR c::us)):=b5.right;have b7:At W' ((((((s'.adv (H5 ow).length).adv (tt.length+1)).adv 1).adv 1).adv ((jx false (A.map (·.ts))).length+1))).i (Ku T++cR c::us):=by have:=b6.tail;simpa[PS.adv,aby]using this
  have b8:At W' (((((((s'.adv (H5 ow).length).adv (tt.length+1)).adv 1).adv 1).adv ((jx false (A.map (·.ts))).length+1))).adv (Ku T).length).i (cR c::us):=b7.right;unfold eK;dsimp only;rw[f1.1,f1.2,r4 W' _ (show (s'.adv (H5 ow).length).e=0 from e0) b2.left];dsimp only;rw[iF b3 e0 m3];dsimp only;rw[gv b4 e0];unfold eI;rw[tw (.inl rfl) a1 (by exact e0) b5];dsimp only;rw[Vb t1 (by exact e0) b7];dsimp only;rw[Ie (by exact e0) hc b8];simp only[cZ];refine Prod.ext rfl ?_;dsimp only;split<;>congr 1<;>simp<;>omega
 ·rw[ln];have k1:=Fu (A.map (·.d));have k2:=Fu (T.map (·.d));have nx:∀s:PS,(aZ s).i=s.i+1:=λ _=>rfl;have i1:(if ow=true then([111,110,101,119,97,121,32]:aE)else []).length<=7:=by split<;>simp
  have i2:(if T.map (·.d)=[] then([]:aE)else [32,116,104,114,111,119,115,32,40]++fh (T.map (·.d))++[41]).length<=jZ mF (T.map (·.d))+10:=by
   split
   ·simp
   ·simp only[aaS,aaT,abp];omega
  simp only[nx,Zc,Uw,iU,aaS,aaT,abp]at l4⊢;omega
include hW hG in
theorem CJ{s:PS}(hs:s.i<W.length)(he:(iq W s).2.e=0):Rg yg eK zP Zc s (iq W s):=
 C1 hW.toWds (pr:=yg) (one:=eK) (beg:=o5 W) (λ s hs _=>uA hW.toWds hs) (λ s hs h0 e=>E5 hW hG hs h0 e) (λ s hs h0 e=>HT hW hs h0 e) hs he
end
theorem S4:gI (dB IX):=gO ⟨_,_,rfl,by decide⟩ (by decide) ⟨by decide,by decide,by decide⟩
theorem O5:gI (dB G5):=gO ⟨_,_,rfl,by decide⟩ (by decide) ⟨by decide,by decide,by decide⟩
theorem Mz:gI (dB xj):=gO ⟨_,_,rfl,by decide⟩ (by decide) ⟨by decide,by decide,by decide⟩
theorem yH:gI (dB F4):=gO ⟨_,_,rfl,by decide⟩ (by decide) ⟨by decide,by decide,by decide⟩
theorem S9:gI (dB Gw):=gO ⟨_,_,rfl,by decide⟩ (by decide) ⟨by decide,by decide,by decide⟩
theorem Pu:gI (dB D2):=gO ⟨_,_,rfl,by decide⟩ (by decide) ⟨by decide,by decide,by decide⟩
theorem Q8:gI (dB Iy):=gO ⟨_,_,rfl,by decide⟩ (by decide) ⟨by decide,by decide,by decide⟩
theorem Px:gI (dB zw):=gO ⟨_,_,rfl,by decide⟩ (by decide) ⟨by decide,by decide,by decide⟩
def Do(d:D)(ts:List Tok):Prop:=(∃w r,ts=dB w::r/\w∈j8)/\Rd true (nr d) ts/\∀(W:List Tok) (s:PS),s.e=0->At W s.i ts->jX W s=some (d,s.adv ts.length)
theorem B6{lines:aE}{ls:List Tok}(h:Rd true lines ls):Rd true ([32]++([123]++([10]++(lines++([125]++[10]))))) ([]++([cR 123]++([]++(ls++([cR 125]++[]))))):=
 Rd.thn (Rd.sp (by decide)) (Rd.thn (Rd.sign (by decide)) (Rd.thn (Rd.sp (by decide)) (h.thn (Rd.thn (Rd.sign (by decide)) (Rd.sp (by decide))))))
theorem nZ{f g:D->aE}:∀{l:List D},(∀y∈l,f y=g y)->(l.map f).flatten=(l.map g).flatten
 | [],_=>rfl
 |x::l,h=>by rw[List.map_cons,List.map_cons,List.flatten_cons,List.flatten_cons,h x (by simp),nZ λ y hy=>h y (by simp[hy])]
theorem Ue:fY []=false:=by decide
section
variable {W : List Tok} (hW : Wdn W) (hG : B0 W)
def Dg(s:PS)(x:D×PS):Prop:=WD x.1/\(nr x.1).length+3000*s.i<=3000*x.2.i
include hW hG in
theorem ju{ok:aE->Bool}{s:PS}(hs:s.i<W.length)(he:(bR W ok s).2.e=0):gI (dB (bR W ok s).1)/\ok (bR W ok s).1=true/\(bR W ok s).1.length<=2000/\(bR W ok s).2.i=s.i+1:=by obtain⟨m1,m2,m3,m4⟩:=ld he;have nl:=pL hW.toWds ok hs;rw[m4]at nl⊢;exact⟨(lv (iu hG (s:=s) (by rw[m2];decide)) m2).1,m3,nl,rfl⟩
include hW hG in
theorem p8{kd:Int}{kw:aE}(hk:kd=4/\kw=F4\/kd=5/\kw=Gw\/kd=6/\kw=D2){s:PS}(hs:s.i<W.length)(he:(gS W kd s).2.e=0):
  Dg s (gS W kd s)/\∃ts:List Tok,Rd true (nr (gS W kd s).1) (dB kw::ts)/\∀(W':List Tok) (s':PS),s'.e=0->At W' s'.i ts->gS W' kd s'=((gS W kd s).1,s'.adv ts.length):=by
 have h1:=cz hW.toWds bu hs;have h2:=bX hW.toWds [123] h1.lt;have h3:=jj hW.toWds [125] h2.lt;obtain⟨n1,n2,n3,n4⟩:=ju hW hG hs (h2.e (h3.e he));obtain⟨E,f1,w1,f2,f3⟩:=pz hW hG h2.lt he;have l2:=h2.le;have ln:(gS W kd s).2=(eI W [125] (cH W [123] (bR W bu s).2)).2:=rfl;obtain⟨x,hx⟩:∃x,x=(gS W kd s).1:=⟨_,rfl⟩
 unfold Dg;rw[<-hx,ln];unfold gS at hx;dsimp only at hx;rw[f2]at hx;generalize (bR W bu s).1=M at *;have l:((E.map (·.d)).map rT).flatten=((E.map (·.d)).map λ d=>[32]++([32]++(sd d++([44]++[10])))).flatten:=nZ λ y _=>by simp[rT]
 have e:nr x=kw++[32]++(M++([32]++([123]++([10]++(((E.map (·.d)).map rT).flatten++([125]++[10])))))):=by
  rw[hx];rcases hk with⟨rfl,rfl⟩|⟨rfl,rfl⟩|⟨rfl,rfl⟩
  ·show CE 4++M++[32,123,10]++((E.map (·.d)).map rT).flatten++[125,10]=_;simp[CE]
  ·show CE 5++M++[32,123,10]++((E.map (·.d)).map rT).flatten++[125,10]=_;simp[CE]
  ·show CE 6++M++[32,123,10]++((E.map (·.d)).map rT).flatten++[125,10]=_;simp[CE]
 have k:=UL (E.map (·.d));have kl:kw.length<=10:=by rcases hk with⟨_,rfl⟩|⟨_,rfl⟩|⟨_,rfl⟩<;>decide
 refine⟨⟨⟨kd,_,_,_,_,_,_,_,_,_,_,_,_,_,_,_,hx,by omega,by omega,n3,by simp,by omega,Z3,by have:=f1.2;simp;omega,w1,by simp,vY,by simp,by simp,vY,by omega,λ _=>⟨rfl,rfl,rfl⟩,by omega⟩,by rw[e];simp only[aaS,aaT,abp];omega⟩,dB M::cR 123::(jx true (E.map (·.ts))++[cR 125]),?_,λ W' s' e0 ha=>?_⟩
 ·have kg:gI (dB kw):=by rcases hk with⟨_,rfl⟩|⟨_,rfl⟩|⟨_,rfl⟩;exact yH;exact S9;exact Pu
  have k:=(qX kg).thn ((dY n1).app (B6 (sM E f1.1)) λ _=>cP (by decide));rw[e,l];simpa using k
 ·have a2:At W' (s'.adv 1).i (cR 123::(jx true (E.map (·.ts))++cR 125::[])):=ha.tail;have a3:At W' ((s'.adv 1).adv 1).i (jx true (E.map (·.ts))++cR 125::[]):=a2.tail;unfold gS;rw[iF ha e0 n2];dsimp only;rw[gv a2 (by exact e0)];unfold eI;rw[tw (.inr rfl) f1 (by exact e0) a3,hx];refine Prod.ext rfl ?_;simp only[cZ];congr 1;simp;omega
def TB(x:aE):List Tok:=if x=[]then []else [dB zw,dB x]
include hW hG in
theorem Pw{s:PS}(hs:s.i<W.length)(he:(oQ W s).2.e=0):((oQ W s).1.length<=2000/\(oQ W s).1.length+3000*s.i<=3000*(oQ W s).2.i)/\Rd false (if (oQ W s).1=[]then []else [32]++(zw++([32]++(oQ W s).1))) (TB (oQ W s).1)/\
  ∀(W':List Tok) (s':PS) (us:List Tok),s'.e=0->At W' s'.i (TB (oQ W s).1++cR 123::us)->oQ W' s'=((oQ W s).1,s'.adv (TB (oQ W s).1).length):=by
 unfold oQ at he⊢;by_cases h:bP W zw s
 ·rw[aaR h]at he⊢;obtain⟨n1,n2,n3,n4⟩:=ju hW hG (bU hW.toWds hs (cF h (by decide))).lt he;have ni:(aZ s).i=s.i+1:=rfl;have ne:(bR W fY (aZ s)).1≠[]:=λ x=>by rw[x,Ue]at n2;cases n2
  generalize (bR W fY (aZ s)).1=M at *;unfold TB;rw[aaN ne,aaN ne];refine⟨⟨n3,by omega⟩,Rd.thn (ts:=[]) (Rd.sp (by decide)) (Rd.app (ts:=[dB zw]) (dY Px) (Rd.thn (ts:=[]) (Rd.sp (by decide)) (dY n1)) λ _=>cP (by decide)),λ W' s' us e0 ha=>?_⟩;have ha:At W' s'.i (dB zw::dB M::cR 123::us):=ha;have k:bP W' zw s':=ha.pF e0;have a2:At W' (s'.adv 1).i (dB M::cR 123::us):=ha.tail;rw[aaR k,dU,iF a2 (by exact e0) n2,cZ];rfl
 ·rw[aaN h];refine⟨⟨Nat.zero_le _,by simp⟩,Rd.nil,λ W' s' us e0 ha=>?_⟩;have ha:At W' s'.i (cR 123::us):=ha;rw[aaN (λ x=>by have:=ha.kd.1;rw[x.2.1]at this;cases this)];rfl
include hW hG in
theorem Pg{s:PS}(hs:s.i<W.length){x:D×PS}(h:jX W s=some x)(he:x.2.e=0):Dg s x/\∃ts,Do x.1 ts:=by
 have nx:∀{g:aE},bP W g s->Ad W s (aZ s):=λ h=>bU hW.toWds hs (cF h (by decide));have ni:(aZ s).i=s.i+1:=rfl;unfold jX at h;split at h
 ·rename_i h0;injection h with h;subst h
  have a1:=iA hW.toWds 12 (nx h0).lt;have a2:=cz hW.toWds bu a1.lt;dsimp only at he⊢;obtain⟨n1,n2,n3,n4⟩:=ju hW hG a1.lt he;obtain⟨g1,u,tt,t1,t2,t3⟩:=qd hW.toWds hG 12 (nx h0).lt (a2.e he);have ts:=nC hW.toWds (n:=12) (by decide) (nx h0).lt;generalize (bR W bu (eU W 12 (aZ s)).2).1=M at *;generalize (eU W 12 (aZ s)).1=T at *;have e:nr (dD 1 M T 0 0 0 [] true [] true [] true [] [] true [])=[116,121,112,101,100,101,102,32]++T++[32]++M++[10]:=rfl;refine⟨⟨⟨1,_,_,_,_,_,_,_,_,_,_,_,_,_,_,_,rfl,by omega,by omega,n3,ts,by omega,Z3,by simp,vY,by simp,vY,by simp,by simp,vY,by omega,by omega,by omega⟩,by rw[e];simp only[Ln,aaS,aaT,abp]at g1⊢;omega⟩,dB IX::((dB u::tt)++[dB M]),⟨_,_,rfl,by simp[j8]⟩,?_,λ W' s' e0 ha=>?_⟩
  ·have k:=((((qX S4).thn t1).app (Rd.sp (b:=true) (c:=32) (by decide)) λ _=>cP (by decide)).thn (dY n1)).app (Rd.sp (b:=true) (c:=10) (by decide)) λ _=>cP (by decide)
   rw[e];simpa using k
  ·have k:bP W' IX s':=ha.pF e0;have b2:At W' (s'.adv 1).i ((dB u::tt)++[dB M]):=ha.tail;have b3:At W' ((s'.adv 1).adv (tt.length+1)).i [dB M]:=b2.right;unfold jX;rw[aaR k,dU,t3 W' (s'.adv 1) e0 b2.left];dsimp only;rw[iF b3 (by exact e0) n2];simp only[cZ];congr 3;simp;omega
 split at h
 ·rename_i h0;injection h with h;subst h
  have a1:=iA hW.toWds 12 (nx h0).lt;have a2:=cz hW.toWds bu a1.lt;have a3:=bX hW.toWds [61] a2.lt;have a4:=(kz hW.toWds 12 a3.lt).1;dsimp only at he⊢;have e3:=a4.e he;have e2:=a3.e e3;obtain⟨n1,n2,n3,n4⟩:=ju hW hG a1.lt e2;obtain⟨g1,u,tt,t1,t2,t3⟩:=qd hW.toWds hG 12 (nx h0).lt (a2.e e2);have ts:=nC hW.toWds (n:=12) (by decide) (nx h0).lt;have l3:=a3.le;obtain⟨⟨c1,c2,c3⟩,tc,o1,o2,o3⟩:=rp hW hG 12 a3.lt e3 he;generalize (cp W 12 (cH W [61] (bR W bu (eU W 12 (aZ s)).2).2)).1=C at *;generalize (bR W bu (eU W 12 (aZ s)).2).1=M at *;generalize (eU W 12 (aZ s)).1=T at *;have e:nr (dD 3 M T C.k C.n C.u C.s C.l.isEmpty C.l true [] true [] [] true [])=[99,111,110,115,116,32]++T++[32]++M++[32,61,32]++eB C.D++[10]:=rfl;refine⟨⟨⟨3,_,_,_,_,_,_,_,_,_,_,_,_,_,_,_,rfl,by omega,by omega,n3,ts,λ _=>c2,c1.le (by decide),by simp,vY,by simp,vY,by simp,by simp,vY,by omega,by omega,by omega⟩,by rw[e];simp only[Ln,aaS,aaT,abp]at g1 c3⊢;omega⟩,dB G5::((dB u::tt)++(dB M::cR 61::tc)),⟨_,_,rfl,by simp[j8]⟩,?_,λ W' s' e0 ha=>?_⟩
  ·have k:=((((((qX O5).thn t1).app (Rd.sp (b:=true) (c:=32) (by decide)) λ _=>cP (by decide)).thn (dY n1)).app (Rd.thn (b:=true) (s:=[32]) (s':=[61,32]) (ts:=[]) (Rd.sp (by decide)) (Rd.thn (s:=[61]) (s':=[32]) (ts:=[cR 61]) (ts':=[]) (Rd.sign (by decide)) (Rd.sp (by decide)))) λ _=>cP (by decide)).thn o2).app (Rd.sp (b:=true) (c:=10) (by decide)) λ _=>cP (by decide)
   rw[e];simpa using k
  ·have k:bP W' G5 s':=ha.pF e0;have b2:At W' (s'.adv 1).i ((dB u::tt)++(dB M::cR 61::tc)):=ha.tail;have b3:At W' ((s'.adv 1).adv (tt.length+1)).i (dB M::cR 61::tc):=b2.right;have b4:At W' (((s'.adv 1).adv (tt.length+1)).adv 1).i (cR 61::tc):=b3.tail;have b5:At W' ((((s'.adv 1).adv (tt.length+1)).adv 1).adv 1).i tc:=b4.tail;unfold jX;rw[aaN (dc ha (by decide)),aaR k,dU,t3 W' (s'.adv 1) e0 b2.left];dsimp only;rw[iF b3 (by exact e0) n2];dsimp only;rw[gv b4 (by exact e0),o3 W' _ (by exact e0) b5];simp only[cZ];congr 3;simp;omega
 split at h
 ·rename_i h0;injection h with h;subst h
  have a1:=cz hW.toWds bu (nx h0).lt;have a2:=bX hW.toWds [123] a1.lt;have a3:=rP hW.toWds a2.lt;dsimp only at he⊢;obtain⟨n1,n2,n3,n4⟩:=ju hW hG (nx h0).lt (a2.e (a3.e he));obtain⟨E,f1,w1,f2,f3⟩:=CI hW hG a2.lt he;have l2:=a2.le;have k:=UM (E.map (·.d));rw[f2];generalize (bR W bu (aZ s)).1=M at *;have e:nr (dD 2 M [] 0 0 0 [] true [] true [] (E.map (·.d)).isEmpty (E.map (·.d)) [] true [])=[101,110,117,109,32]++M++[32,123,10]++((E.map (·.d)).map te).flatten++[125,10]:=rfl;refine⟨⟨⟨2,_,_,_,_,_,_,_,_,_,_,_,_,_,_,_,rfl,by omega,by omega,n3,by simp,by omega,Z3,by simp,vY,by have:=f1.2;simp;omega,w1,by simp,by simp,vY,λ _=>⟨rfl,rfl,rfl⟩,by omega,by omega⟩,by rw[e];simp only[aaS,aaT,abp];omega⟩,dB xj::dB M::cR 123::(jx true (E.map (·.ts))++[cR 125]),⟨_,_,rfl,by simp[j8]⟩,?_,λ W' s' e0 ha=>?_⟩
  ·have k:=(qX Mz).thn ((dY n1).app (B6 (sM E f1.1)) λ _=>cP (by decide))
   have l:((E.map (·.d)).map te).flatten=((E.map (·.d)).map λ d=>[32]++([32]++(QK d++([44]++[10])))).flatten:=nZ λ y hy=>by
    obtain⟨nm,hh,n,rfl,_⟩:=w1 y hy;simp[te,QK]
   rw[e,l];simpa using k
  ·have k:bP W' xj s':=ha.pF e0;have b2:At W' (s'.adv 1).i (dB M::cR 123::(jx true (E.map (·.ts))++cR 125::[])):=ha.tail;have b3:At W' ((s'.adv 1).adv 1).i (cR 123::(jx true (E.map (·.ts))++cR 125::[])):=b2.tail;have b4:At W' (((s'.adv 1).adv 1).adv 1).i (jx true (E.map (·.ts))++cR 125::[]):=b3.tail;unfold jX;rw[aaN (dc ha (by decide)),aaN (dc ha (by decide)),aaR k,dU,iF b2 (by exact e0) n2];dsimp only;rw[gv b3 (by exact e0)];unfold kH;rw[tw (.inr rfl) f1 (by exact e0) b4];simp only[cZ];congr 3;simp;omega
 split at h
 ·rename_i h0;injection h with h;subst h
  obtain⟨⟨d1,d2⟩,ts,r1,r2⟩:=p8 hW hG (.inl ⟨rfl,rfl⟩) (nx h0).lt he;refine⟨⟨d1,by omega⟩,dB F4::ts,⟨_,_,rfl,by simp[j8]⟩,r1,λ W' s' e0 ha=>?_⟩;have k:bP W' F4 s':=ha.pF e0;unfold jX;rw[aaN (dc ha (by decide)),aaN (dc ha (by decide)),aaN (dc ha (by decide)),aaR k,dU,r2 W' (s'.adv 1) e0 ha.tail,cZ];congr 3;simp;omega
 split at h
 ·rename_i h0;injection h with h;subst h
  obtain⟨⟨d1,d2⟩,ts,r1,r2⟩:=p8 hW hG (.inr (.inl ⟨rfl,rfl⟩)) (nx h0).lt he;refine⟨⟨d1,by omega⟩,dB Gw::ts,⟨_,_,rfl,by simp[j8]⟩,r1,λ W' s' e0 ha=>?_⟩;have k:bP W' Gw s':=ha.pF e0;unfold jX;rw[aaN (dc ha (by decide)),aaN (dc ha (by decide)),aaN (dc ha (by decide)),aaN (dc ha (by decide)),aaR k,dU,r2 W' (s'.adv 1) e0 ha.tail,cZ];congr 3;simp;omega
 split at h
 ·rename_i h0;injection h with h;subst h
  obtain⟨⟨d1,d2⟩,ts,r1,r2⟩:=p8 hW hG (.inr (.inr ⟨rfl,rfl⟩)) (nx h0).lt he;refine⟨⟨d1,by omega⟩,dB D2::ts,⟨_,_,rfl,by simp[j8]⟩,r1,λ W' s' e0 ha=>?_⟩;have k:bP W' D2 s':=ha.pF e0;unfold jX;rw[aaN (dc ha (by decide)),aaN (dc ha (by decide)),aaN (dc ha (by decide)),aaN (dc ha (by decide)),aaN (dc ha (by decide)),aaR k,dU,r2 W' (s'.adv 1) e0 ha.tail,cZ];congr 3;simp;omega
 split at h
 ·rename_i h0;injection h with h;subst h
  have a1:=cz hW.toWds bu (nx h0).lt;have a2:=Py hW.toWds a1.lt;have a3:=bX hW.toWds [123] a2.lt;have a4:=rQ hW.toWds a3.lt;dsimp only at he⊢;have e2:=a3.e (a4.e he);obtain⟨n1,n2,n3,n4⟩:=ju hW hG (nx h0).lt (a2.e e2);obtain⟨⟨x3,x4⟩,x1,x2⟩:=Pw hW hG a1.lt e2;obtain⟨E,f1,w1,f2,f3⟩:=CJ hW hG a3.lt he;have l3:=a3.le;have k:=QJ (E.map (·.d));rw[f2];generalize (oQ W (bR W bu (aZ s)).2).1=X at *;generalize (bR W bu (aZ s)).1=M at *;have e:nr (dD 7 M [] 0 0 0 [] true [] true [] true [] X (E.map (·.d)).isEmpty (E.map (·.d)))=[115,101,114,118,105,99,101,32]++M++(if X=[]then []else [32,101,120,116,101,110,100,115,32]++X)++[32,123,10]++((E.map (·.d)).map iU).flatten++[125,10]:=rfl;have i1:(if X=[]then [] else([32,101,120,116,101,110,100,115,32]:aE)++X).length<=X.length+9:=by
   split
   ·simp
   ·simp only[aaS,aaT,abp];omega
  refine⟨⟨⟨7,_,_,_,_,_,_,_,_,_,_,_,_,_,_,_,rfl,by omega,by omega,n3,by simp,by omega,Z3,by simp,vY,by simp,vY,x3,by have:=f1.2;simp;omega,w1,by omega,by omega,λ _=>⟨rfl,rfl⟩⟩,by rw[e];simp only[aaS,aaT,abp];omega⟩,dB Iy::dB M::(TB X++(cR 123::(jx true (E.map (·.ts))++[cR 125]))),⟨_,_,rfl,by simp[j8]⟩,?_,λ W' s' e0 ha=>?_⟩
  ·have kb:=B6 (sM E f1.1);have kx:Rd true (M++((if X=[]then []else [32]++(zw++([32]++X)))++([32]++([123]++([10]++(((E.map (·.d)).map λ d=>[32]++([32]++(yg d++([44]++[10])))).flatten++([125]++[10]))))))) ([dB M]++(TB X++([]++([cR 123]++([]++(jx true (E.map (·.ts))++([cR 125]++[]))))))):=by
    refine(dY n1).app (x1.app kb λ _=>cP (by decide)) λ _=>?_;by_cases hX:X=[]
    ·rw[aaR hX];exact cP (by decide)
    ·rw[aaN hX];exact cP (by decide)
   have k:=(qX Q8).thn kx;have l:((E.map (·.d)).map iU).flatten=((E.map (·.d)).map λ d=>[32]++([32]++(yg d++([44]++[10])))).flatten:=nZ λ y hy=>by
    obtain⟨nm,ow,ret,ab,al,tb,tl,rfl,_⟩:=w1 y hy;by_cases ht:tl=[]<;>simp[iU,yg,ht]
   rw[e,l];simpa using k
  ·have k:bP W' Iy s':=ha.pF e0;have b2:At W' (s'.adv 1).i (dB M::(TB X++(cR 123::(jx true (E.map (·.ts))++cR 125::[])))):=ha.tail;have b3:At W' ((s'.adv 1).adv 1).i (TB X++(cR 123::(jx true (E.map (·.ts))++cR 125::[]))):=b2.tail;have b4:At W' (((s'.adv 1).adv 1).adv (TB X).length).i (cR 123::(jx true (E.map (·.ts))++cR 125::[])):=b3.right;have b5:At W' ((((s'.adv 1).adv 1).adv (TB X).length).adv 1).i (jx true (E.map (·.ts))++cR 125::[]):=b4.tail;unfold jX;rw[aaN (dc ha (by decide)),aaN (dc ha (by decide)),aaN (dc ha (by decide)),aaN (dc ha (by decide)),aaN (dc ha (by decide)),aaN (dc ha (by decide)),aaR k,dU,iF b2 (by exact e0) n2];dsimp only;rw[x2 W' _ _ (by exact e0) b3];dsimp only;rw[gv b4 (by exact e0)];unfold iq;rw[tw (.inr rfl) f1 (by exact e0) b5];simp only[cZ];congr 3;simp;omega
 ·cases h
end
theorem PY:gI (dB qI):=gO ⟨_,_,rfl,by decide⟩ (by decide) ⟨by decide,by decide,by decide⟩
theorem UF:gI (dB HX):=gO ⟨_,_,rfl,by decide⟩ (by decide) ⟨by decide,by decide,by decide⟩
abbrev zr:Tok:=⟨6,[],0,0,0⟩
theorem DO{W:List Tok}:∀(E:List El) (f:Nat) (L:List D) {s:PS},(∀e∈E,Do e.d e.ts)->L.length+E.length<=30->E.length<f->s.e=0->
  At W s.i (E.flatMap (·.ts)++[zr])->eG W f L s=(L++E.map (·.d),s.adv (E.flatMap (·.ts)).length)
 | [],f,L,s,hE,hn,hf,h0,ha=>by
  obtain⟨g,rfl⟩:∃g,f=g+1:=⟨f-1,by simp at hf;omega⟩
  have ha:At W s.i (zr::[]):=ha;rw[eG,aaN (λ x=>x.2 ha.kd.1)];simp[zQ]
 |e::r,f,L,s,hE,hn,hf,h0,ha=>by
  obtain⟨g,rfl⟩:∃g,f=g+1:=⟨f-1,by simp at hf;omega⟩
  obtain⟨⟨w,q,hq,hw⟩,o2,o3⟩:=hE e (by simp);rw[List.flatMap_cons,abg]at ha;have h1:At W s.i (dB w::(q++(r.flatMap (·.ts)++[zr]))):=by have:=ha;rw[hq]at this;exact this
  have a2:At W (s.adv e.ts.length).i (r.flatMap (·.ts)++[zr]):=ha.right;have pn:fS W (s.adv e.ts.length)=s.adv e.ts.length:=by
   cases r with
   |nil=>exact sX (t:=zr) (ts:=[]) a2 (by decide) (by decide)
   |cons x r=>
    obtain⟨⟨v,p,hp,hv⟩,_,_⟩:=hE x (by simp);rw[List.flatMap_cons,hp]at a2;have vne:v≠[44]/\v≠[59]:=by simp only[j8,List.mem_cons,List.not_mem_nil,or_false]at hv;rcases hv with rfl|rfl|rfl|rfl|rfl|rfl|rfl<;>exact⟨by decide,by decide⟩
    exact sX (t:=dB v) a2 vne.1 vne.2
  have hd:im W s=(e.d,true,s.adv e.ts.length):=by unfold im;rw[o3 W s h0 ha.left];simp only[pn]
  have hF:vW W s=s.adv e.ts.length:=by unfold vW;rw[hd];rfl
  have ih:=DO r g (L++[e.d]) (s:=s.adv e.ts.length) (λ y hy=>hE y (by simp[hy])) (by simp at hn⊢;omega) (by simp at hf⊢;omega) (by exact h0) a2;rw[eG,aaR ⟨h0,h1.nk 6 rfl⟩,aaN (by simp at hn;omega),hF,hd];dsimp only;rw[ih,cZ,List.flatMap_cons,List.map_cons,abg,aaS];rfl
theorem Jp:∀(E:List El),(∀e∈E,Do e.d e.ts)->Rd true ((E.map (·.d)).map nr).flatten (E.flatMap (·.ts))
 | [],_=>Rd.nil
 |e::r,h=>by
  rw[List.map_cons,List.map_cons,List.flatten_cons,List.flatMap_cons];exact(h e (by simp)).2.1.thn (Jp r λ y hy=>h y (by simp[hy]))
section
variable {W : List Tok} (hW : Wdn W) (hG : B0 W)
include hW hG in
theorem DP:∀(f:Nat) (L:List D) {s:PS},s.i<W.length->L.length<=30->(eG W f L s).2.e=0->
  ∃E:List El,(∀e∈E,Do e.d e.ts/\WD e.d)/\L.length+E.length<=30/\(eG W f L s).1=L++E.map (·.d)/\jZ mD' (E.map (·.d))+3000*s.i<=3000*(eG W f L s).2.i
 |0,L,s,hs,hl,he=>⟨[],by simp,hl,by simp[eG],by simp[eG,jZ]⟩
 |f+1,L,s,hs,hl,he=>by
  unfold eG at he⊢;by_cases h:s.e=0/\(bm W s).kind≠6;rotate_left
  ·rw[aaN h];exact⟨[],by simp,hl,by simp,by simp[jZ]⟩
  rw[aaR h]at he⊢;by_cases h2:L.length=30/\sA W s=true
  ·rw[aaR h2]at he;exact absurd he (hJ 4 (by decide))
  rw[aaN h2]at he⊢;have a:=B8 hW.toWds hs;have e1:=(B9 hW.toWds f (L++[(im W s).1]) a.lt).e he;have hdo:sA W s=true/\(WD (im W s).1/\(nr (im W s).1).length+3000*s.i<=3000*(vW W s).i)/\∃ts,Do (im W s).1 ts:=by
   unfold vW im at e1⊢
   cases hx:jX W s with
   |none=>rw[hx]at e1;exact absurd e1 (hJ 2 (by decide))
   |some x=>
    rw[hx]at e1;have p:=gz hW.toWds (Jo hW.toWds hs hx).lt;obtain⟨⟨g1,g2⟩,g3⟩:=Pg hW hG hs hx (p.e e1);refine⟨?_,⟨g1,?_⟩,g3⟩
    ·cases hb:sA W s with
     |true=>rfl
     |false=>rw[Pf hb]at hx;cases hx
    ·have:=p.le;show (nr x.1).length+3000*s.i<=3000*(fS W x.2).i;omega
  obtain⟨g0,⟨g1,g2⟩,ts,hdo⟩:=hdo;have n30:¬L.length=30:=λ x=>h2 ⟨x,g0⟩;obtain⟨E,r1,r2,r3,r4⟩:=DP f (L++[(im W s).1]) a.lt (by simp;omega) he;refine⟨⟨(im W s).1,ts⟩::E,λ y hy=>?_,by simp at r2⊢;omega,by rw[r3,List.map_cons,abg];rfl,by simp only[jZ,mD',List.map_cons,List.sum_cons]at r4⊢;omega⟩;rcases List.mem_cons.1 hy with rfl|hy
  ·exact⟨hdo,g1⟩
  ·exact r1 y hy
end
def Io(t:aE):Prop:=TH t/\bu t=true
def oc(t:aE):List Tok:=[dB qI,⟨4,t,0,0,0⟩]
def So(d:D)(ts:List Tok):Prop:=∃(a b:aE) (sc:Tok),d=C6 a b/\ts=[dB HX,sc,dB b]/\Rd true (vH d) ts/\fY b=true/\∀(W:List Tok) (s:PS) (us:List Tok),s.e=0->At W s.i (sc::us)->eA W s=(a,s.adv 1)
def Hd(t:Tok):Prop:=¬(t.kind=1/\(t.text=qI\/t.text=HX))
theorem AK{W:List Tok}{v:Tok}(hv:Hd v){us:List Tok}(il:List D):∀(E:List El) (f:Nat) (sl:List D) {s:PS},(∀e∈E,So e.d e.ts)->sl.length+E.length<=5->E.length<f->s.e=0->
  At W s.i (E.flatMap (·.ts)++v::us)->eS W f il sl s=((il,sl++E.map (·.d)),s.adv (E.flatMap (·.ts)).length)
 | [],f,sl,s,hE,hn,hf,h0,ha=>by
  obtain⟨g,rfl⟩:∃g,f=g+1:=⟨f-1,by simp at hf;omega⟩
  have ha:At W s.i (v::us):=ha;rw[eS,aaN (λ x=>hv ⟨by rw[<-ha.kd.1];exact x.2.1,.inl (by rw[<-ha.kd.2.1];exact x.2.2)⟩),aaN (λ x=>hv ⟨by rw[<-ha.kd.1];exact x.2.1,.inr (by rw[<-ha.kd.2.1];exact x.2.2)⟩)];simp[zQ]
 |e::r,f,sl,s,hE,hn,hf,h0,ha=>by
  obtain⟨g,rfl⟩:∃g,f=g+1:=⟨f-1,by simp at hf;omega⟩
  obtain⟨a,b,sc,hd,ht,_,hb,hs⟩:=hE e (by simp);rw[List.flatMap_cons,abg]at ha;have h1:At W s.i (dB HX::sc::dB b::(r.flatMap (·.ts)++v::us)):=by have:=ha;rw[ht]at this;exact this
  have h2:At W (s.adv 1).i (sc::dB b::(r.flatMap (·.ts)++v::us)):=h1.tail;have h3:At W ((s.adv 1).adv 1).i (dB b::(r.flatMap (·.ts)++v::us)):=h2.tail;have h4:At W (((s.adv 1).adv 1).adv 1).i (r.flatMap (·.ts)++v::us):=h3.tail;have k:bP W HX s:=h1.pF h0;have ih:=AK hv (W:=W) il r g (sl++[e.d]) (s:=((s.adv 1).adv 1).adv 1) (λ y hy=>hE y (by simp[hy])) (by simp at hn⊢;omega) (by simp at hf⊢;omega) (by exact h0) h4;rw[eS,aaN (dc h1 (by decide)),aaR k,aaN (by simp at hn;omega),dU,hs W (s.adv 1) _ (by exact h0) h2];dsimp only;rw[iF h3 (by exact h0) hb];dsimp only;rw[<-hd,ih];simp only[List.map_cons,abg,List.singleton_append,cZ,List.flatMap_cons,aaS,ht];congr 2
theorem AJ{W:List Tok}{v:Tok}(hv:Hd v){us:List Tok}(E:List El)(hE:∀e∈E,So e.d e.ts)(hn5:E.length<=5):∀(I:List aE) (f:Nat) (il:List D) {s:PS},(∀t∈I,Io t)->il.length+I.length<=5->I.length+E.length<f->s.e=0->
  At W s.i (I.flatMap oc++(E.flatMap (·.ts)++v::us))->eS W f il [] s=((il++I.map D.s,E.map (·.d)),s.adv (I.flatMap oc++E.flatMap (·.ts)).length)
 | [],f,il,s,hI,hn,hf,h0,ha=>by
  have:=AK hv il E f [] (s:=s) hE (by simpa using hn5) (by simpa using hf) h0 ha;rw[this];simp
 |t::r,f,il,s,hI,hn,hf,h0,ha=>by
  obtain⟨g,rfl⟩:∃g,f=g+1:=⟨f-1,by simp at hf;omega⟩
  obtain⟨h1,h2⟩:=hI t (by simp);have a1:At W s.i (dB qI::⟨4,t,0,0,0⟩::(r.flatMap oc++(E.flatMap (·.ts)++v::us))):=ha;have a2:At W (s.adv 1).i (⟨4,t,0,0,0⟩::(r.flatMap oc++(E.flatMap (·.ts)++v::us))):=a1.tail;have a3:At W ((s.adv 1).adv 1).i (r.flatMap oc++(E.flatMap (·.ts)++v::us)):=a2.tail;have k:bP W qI s:=a1.pF h0;have ih:=AJ hv (W:=W) E hE hn5 r g (il++[.s t]) (s:=(s.adv 1).adv 1) (λ y hy=>hI y (by simp[hy])) (by simp at hn⊢;omega) (by simp at hf⊢;omega) (by exact h0) a3;rw[eS,aaR k,aaN (by simp at hn;omega),dU,aaR ⟨a2.kd.1,by rw[a2.kd.2.1];exact h2⟩,dU,a2.kd.2.1,ih];simp only[List.map_cons,abg,List.singleton_append,cZ];congr 2
  all_goals (first|(simp[oc];done)|(simp[oc];omega))
section
variable {W : List Tok} (hW : Wdn W) (hG : B0 W)
include hW hG in
theorem xE:∀(f:Nat) (il sl:List D) {s:PS},s.i<W.length->il.length<=5->sl.length<=5->(eS W f il sl s).2.e=0->
  ∃(I:List aE) (E:List El),(∀t∈I,Io t/\t.length<=2000)/\(∀e∈E,So e.d e.ts/\WS e.d)/\il.length+I.length<=5/\sl.length+E.length<=5/\(eS W f il sl s).1=(il++I.map D.s,sl++E.map (·.d))/\jZ mI (I.map D.s)+jZ mS (E.map (·.d))+3000*s.i<=3000*(eS W f il sl s).2.i
 |0,il,sl,s,hs,h1,h2,he=>⟨[],[],by simp,by simp,h1,h2,by simp[eS],by simp[eS,jZ]⟩
 |f+1,il,sl,s,hs,h1,h2,he=>by
  have ni:∀s:PS,(aZ s).i=s.i+1:=λ _=>rfl;unfold eS at he⊢;by_cases c1:bP W qI s
  ·rw[aaR c1]at he⊢;have a:=bU hW.toWds hs (cF c1 (by decide));by_cases c2:il.length=5
   ·rw[aaR c2]at he;exact absurd he (hJ 4 (by decide))
   rw[aaN c2]at he⊢;by_cases c3:(bm W (aZ s)).kind=4/\bu (bm W (aZ s)).text=true
   ·rw[aaR c3]at he⊢;have a2:=bU hW.toWds a.lt (by rw[c3.1];decide);have tg:=EJ (iu hG (s:=aZ s) (by rw[c3.1];decide)) c3.1;have tl:=jM hW.toWds a.lt;obtain⟨I,E,r1,r2,r3,r4,r5,r6⟩:=xE f (il++[.s (bm W (aZ s)).text]) sl a2.lt (by simp;omega) h2 he;refine⟨(bm W (aZ s)).text::I,E,λ t ht=>?_,r2,by simp at r3⊢;omega,r4,by rw[r5];simp,by simp only[jZ,ni,mI,zm,List.map_cons,List.sum_cons,aaS,aaT,abp]at r6⊢;omega⟩;rcases List.mem_cons.1 ht with rfl|ht
    ·exact⟨⟨tg,c3.2⟩,tl⟩
    ·exact r1 t ht
   ·rw[aaN c3]at he;exact absurd he (hJ 2 (by decide))
  rw[aaN c1]at he⊢;by_cases c4:bP W HX s
  ·rw[aaR c4]at he⊢;have a:=bU hW.toWds hs (cF c4 (by decide));by_cases c2:sl.length=5
   ·rw[aaR c2]at he;exact absurd he (hJ 4 (by decide))
   rw[aaN c2]at he⊢;have a2:=C3 hW.toWds a.lt;have a3:=cz hW.toWds fY a2.lt;have em:=(sI hW.toWds f il (sl++[C6 (eA W (aZ s)).1 (bR W fY (eA W (aZ s)).2).1]) a3.lt).e he;obtain⟨n1,n2,n3,n4⟩:=ju hW hG a2.lt em;have e2:=a3.e em;have sc:((eA W (aZ s)).1.length<=2000/\(eA W (aZ s)).2.i=(aZ s).i+1)/\∃t:Tok,Rd false (eA W (aZ s)).1 [t]/\∀(W':List Tok) (s':PS) (us:List Tok),s'.e=0->At W' s'.i (t::us)->eA W' s'=((eA W (aZ s)).1,s'.adv 1):=by
    unfold eA at e2⊢;by_cases hq:gh W [42] (aZ s)
    ·rw[aaR hq];refine⟨⟨by simp,rfl⟩,cR 42,Rd.sign (by decide),λ W' s' us e0 ha=>?_⟩;have k:gh W' [42] s':=ha.pF e0;rw[aaR k];rfl
    ·rw[aaN hq]at e2⊢;obtain⟨m1,m2,m3,m4⟩:=ju hW hG a.lt e2;refine⟨⟨m3,m4⟩,dB (bR W fY (aZ s)).1,dY m1,λ W' s' us e0 ha=>?_⟩;rw[aaN (λ x=>by have:=ha.kd.1;rw[x.2.1]at this;cases this),iF ha e0 m2]
   obtain⟨⟨s1,s2⟩,t,t1,t2⟩:=sc;obtain⟨I,E,r1,r2,r3,r4,r5,r6⟩:=xE f il (sl++[C6 (eA W (aZ s)).1 (bR W fY (eA W (aZ s)).2).1]) a3.lt h1 (by simp;omega) he;generalize (eA W (aZ s)).1=A at *;refine⟨I,⟨C6 A (bR W fY (eA W (aZ s)).2).1,[dB HX,t,dB (bR W fY (eA W (aZ s)).2).1]⟩::E,r1,λ e hy=>?_,r3,by simp at r4⊢;omega,by rw[r5];simp,by simp only[jZ,ni,mS,C6,vH,List.map_cons,List.sum_cons,aaS,aaT,abp]at r6 s2⊢;omega⟩;rcases List.mem_cons.1 hy with rfl|hy
   ·refine⟨⟨_,_,t,rfl,rfl,?_,n2,t2⟩,_,_,rfl,s1,n3⟩;have k:=(((qX UF).thn t1).app (Rd.sp (b:=true) (c:=32) (by decide)) λ _=>cP (by decide)).thn ((dY n1).app (Rd.sp (b:=true) (c:=10) (by decide)) λ _=>cP (by decide));show Rd true ([110,97,109,101,115,112,97,99,101,32]++A++[32]++(bR W fY (eA W (aZ s)).2).1++[10]) _;simpa using k
   ·exact r2 e hy
  ·rw[aaN c4]at he⊢;exact⟨[],[],by simp,by simp,h1,h2,by simp,by simp[jZ]⟩
end
theorem PZ:∀(I:List aE),(∀t∈I,Io t)->Rd true ((I.map D.s).map zm).flatten (I.flatMap oc)
 | [],_=>Rd.nil
 |t::r,h=>by
  have ih:=PZ r λ y hy=>h y (by simp[hy]);obtain⟨h1,h2⟩:=h t (by simp);rw[List.map_cons,List.map_cons,List.flatten_cons,List.flatMap_cons];have e:zm (.s t)=qI++[32]++(fi t++[10]):=by
   have:fi t=[34]++t++[34]:=by unfold fi;rw[aaN (by rw[J5 h2];decide)]
   rw[this];simp[zm]
  have k:=(qX PY).thn ((Rd.quote (b:=true) h1).thn (Rd.sp (b:=true) (c:=10) (by decide)));rw[e];exact Rd.thn (by simpa[oc]using k) ih
theorem Rf:∀(E:List El),(∀e∈E,So e.d e.ts)->Rd true ((E.map (·.d)).map vH).flatten (E.flatMap (·.ts))
 | [],_=>Rd.nil
 |e::r,h=>by
  obtain⟨_,_,_,_,_,h1,_⟩:=h e (by simp);rw[List.map_cons,List.map_cons,List.flatten_cons,List.flatMap_cons];exact h1.thn (Rf r λ y hy=>h y (by simp[hy]))
theorem Qc{s:aE}(h:(lexB s).2.1=0):B0 (lexB s).1:=by
 rcases xN s with⟨W,e,h1,h2⟩|⟨e,w,h1,h2⟩
 ·rw[h1];intro t ht;rcases List.mem_append.1 ht with ht|ht
  ·exact .inl (h2 t ht).1
  ·rw[abK.1 ht];exact .inr rfl
 ·rw[h1]at h;exact absurd h h2
theorem iT{α:Type}{f:α->List Tok}:∀{l:List α},(∀x∈l,1<=(f x).length)->l.length<=(l.flatMap f).length
 | [],_=>aa4 _
 |x::l,h=>by
  have:=iT (l:=l) λ y hy=>h y (by simp[hy]);have:=h x (by simp);simp only[List.flatMap_cons,aaS,aaT];omega
theorem Ia{s:aE}(h:(fG s).2.1=0):Tv (fG s).1/\(mN (fG s).1).length<=900000000/\((mN (fG s).1).length<=2000->fG (mN (fG s).1)=((fG s).1,0,0)):=by
 unfold fG at h;by_cases e:(lexB s).2.1≠0
 ·rw[aaR e]at h;exact absurd h e
 have e:=Decidable.not_not.1 e;have hp:fG s=ov (lexB s).1:=by unfold fG;rw[aaN (by rw[e];decide)]
 rw[aaN (by rw[e];decide)]at h;rw[hp];have hW:=Uu e;have hG:=Qc e;generalize (lexB s).1=W at hW hG h⊢;clear hp;have h0:(s0).i<W.length:=hW.pos;have hm:=sI hW.toWds (W.length+2) [] [] h0;have dm:=B9 hW.toWds (W.length+2) [] hm.lt;have e0:(mL W).2.e=0:=by
  unfold ov at h;by_cases k:(mL W).2.e≠0
  ·rw[aaR k]at h;exact absurd h k
  ·exact Decidable.not_not.1 k
 obtain⟨I,S,i1',i2',i3,i4,i5,i6⟩:=xE hW hG (W.length+2) [] [] h0 (by simp) (by simp) (dm.e e0);obtain⟨E,d1',d2,d3,d4⟩:=DP hW hG (W.length+2) [] hm.lt (by simp) e0;have i1:=λ t ht=>(i1' t ht).1;have i2:=λ e he=>(i2' e he).1;have d1:=λ e he=>(d1' e he).1;have i5l:I.length<=5:=by simpa using i3
 have s5l:S.length<=5:=by simpa using i4
 have e30:E.length<=30:=by simpa using d2
 have hx:(ov W).1=AG (I.map D.s).isEmpty (I.map D.s) (S.map (·.d)).isEmpty (S.map (·.d)) (E.map (·.d)).isEmpty (E.map (·.d)):=by unfold ov;rw[aaN (by rw[e0];decide)];have j1:(fg W).1=(I.map D.s,S.map (·.d)):=i5;have j2:(mL W).1=E.map (·.d):=d3;rw[j1,j2]
 rw[hx];refine⟨⟨_,_,_,_,_,_,rfl,by simp;omega,by simp;omega,by simp;omega,λ y hy=>?_,λ y hy=>?_,λ y hy=>?_⟩,?_,λ hl=>?_⟩
 ·obtain⟨t,ht,rfl⟩:=List.mem_map.1 hy;exact⟨t,rfl,(i1' t ht).2,J5 (i1 t ht).2⟩
 ·obtain⟨e,he,rfl⟩:=List.mem_map.1 hy;exact(i2' e he).2
 ·obtain⟨e,he,rfl⟩:=List.mem_map.1 hy;exact(d1' e he).2
 ·have k1:=lG zm mI (λ _=>aa4 _) (I.map D.s);have k2:=lG vH mS (λ _=>aa4 _) (S.map (·.d));have k3:=lG nr mD' (λ _=>aa4 _) (E.map (·.d));have hl:=hW.len;have dl:=dm.lt;have z0:s0.i=0:=rfl;simp only[AG,mN,aaS];omega
 have rd:Rd true (mN (AG (I.map D.s).isEmpty (I.map D.s) (S.map (·.d)).isEmpty (S.map (·.d)) (E.map (·.d)).isEmpty (E.map (·.d)))) (I.flatMap oc++(S.flatMap (·.ts)++E.flatMap (·.ts))):=by have k:=((PZ I i1).thn (Rf S i2)).thn (Jp E d1);rw[<-abg (I.flatMap oc)];exact k
 obtain⟨us,ee,l1,l2⟩:=rd.all hl;have at0:At (us++[⟨6,[],0,0,ee⟩]) 0 (I.flatMap oc++(S.flatMap (·.ts)++(E.flatMap (·.ts)++[zr]))):=by refine⟨[],?_⟩;rw[List.drop_zero,List.map_append,l2,abo];simp[strip]
 unfold fG;rw[l1];dsimp only;rw[aaN (by decide)];generalize hV:us++[(⟨6,[],0,0,ee⟩:Tok)]=V at at0⊢;have a2:=At.right (ts:=I.flatMap oc++S.flatMap (·.ts)) (us:=E.flatMap (·.ts)++[zr]) (i:=0) (W:=V) (by rw[abg];exact at0);have len:(I.flatMap oc++(S.flatMap (·.ts)++E.flatMap (·.ts))).length+1<=V.length:=by have:=congrArg List.length l2;rw[<-hV];simp at this⊢;omega
 have lI:=iT (f:=oc) (l:=I) λ _ _=>by simp[oc]
 have lS:=iT (f:=λ e:El=>e.ts) (l:=S) λ e he=>by obtain⟨_,_,_,_,ht,_⟩:=i2 e he;simp[ht]
 have lE:=iT (f:=λ e:El=>e.ts) (l:=E) λ e he=>by obtain⟨⟨_,_,ht,_⟩,_⟩:=d1 e he;simp[ht]
 have lens:I.length+S.length+E.length<V.length+2:=by rw[aaS,aaS]at len;omega
 have hd:eS V (V.length+2) [] [] s0=((I.map D.s,S.map (·.d)),s0.adv (I.flatMap oc++S.flatMap (·.ts)).length):=by
  have key:∀(v:Tok) (vs:List Tok),Hd v->E.flatMap (·.ts)++[zr]=v::vs->eS V (V.length+2) [] [] s0=((I.map D.s,S.map (·.d)),s0.adv (I.flatMap oc++S.flatMap (·.ts)).length):=by intro v vs hv e;rw[e]at at0;have:=AJ hv (W:=V) S i2 s5l I (V.length+2) [] (s:=s0) i1 (by simpa using i3) (by omega) rfl at0;rw[this];rfl
  cases hE:E with
  |nil=>exact key zr [] (λ x=>by cases x.1) (by rw[hE];rfl)
  |cons x r=>
   obtain⟨⟨w,q,hq,hw⟩,_⟩:=d1 x (by rw[hE];simp);refine key (dB w) (q++(r.flatMap (·.ts)++[zr])) (λ y=>?_) (by rw[hE,List.flatMap_cons,hq];simp);have y2:w=qI\/w=HX:=y.2;simp only[j8,List.mem_cons,List.not_mem_nil,or_false]at hw;rcases hw with rfl|rfl|rfl|rfl|rfl|rfl|rfl<;>revert y2<;>decide
 have hdd:eG V (V.length+2) [] (fg V).2=(E.map (·.d),(fg V).2.adv (E.flatMap (·.ts)).length):=by
  have j:(fg V).2=s0.adv (I.flatMap oc++S.flatMap (·.ts)).length:=by unfold fg;rw[hd]
  have:=DO (W:=V) E (V.length+2) [] (s:=(fg V).2) d1 (by simpa using d2) (by omega) (by rw[j];rfl) (by rw[j];exact a2);rw[this];rfl
 have j1:(fg V).1=(I.map D.s,S.map (·.d)):=by unfold fg;rw[hd]
 have j2:(fg V).2.e=0:=by unfold fg;rw[hd];rfl
 unfold ov;have hD:mL V=(E.map (·.d),(fg V).2.adv (E.flatMap (·.ts)).length):=hdd;rw[hD];dsimp only;rw[YG,j2,aaN (by decide),j1]
end Go.Dn.Dec.Pa
namespace Go.Dn.Dec
open Go.IntKind (i64 u64 u8 u16 i32 u32)
open Go.Proofs
theorem ZK(s:aE):EQ ch (.call 42 [vs s] []) ( Tr.call (.call 20 [vs s] []) λ o0=>aO o0.snd.isEmpty (dI o0.fst λ l1=>aO (l1.length==3) (bG (cG l1 0) λ d2=>gX d2 λ b3 l4=>bG (cG l1 1) λ d5=>cf .i64 d5 λ n6=>bG (cG l1 2) λ d7=>cf .i64 d7 λ n8=>aR (Vo s n6 0 b3 true l4 [] [])))):=aF
theorem aa6(b:Bool)(l:List D)(c:Bool)(m:List D)(e:Bool)(n:List D):EQ ch (.call 17 (fI b c e l m n) []) ( Tr.call (.call 10 [vl b l] []) λ o0=>ZR o0 λ l1=>Tr.call (.call 11 [V.p 0 0] [aC l1]) λ o2=>eE o2.snd λ x3 l4=>dA x3 λ l5 l6=>aO (l5.length==l1.length) (aO (l6==[]) (iY l4 (bG o2.fst λ d7=>gX d7 λ b8 l9=>ob (bW l9 0) λ d10=>aO (d10.width==3) (ob l9[0]? λ d11=>aO (decide (3<=d11.width)) (Tr.call (.call 13 [V.d (D.g [(List.take 3 (List.drop 0 d11.cells)).getD 0 (D.b false),(List.take 3 (List.drop 0 d11.cells)).getD 1 (D.b false),(List.take 3 (List.drop 0 d11.cells)).getD 2 (D.b false)])] []) λ o12=>aO o12.snd.isEmpty (bG o12.fst λ d13=>fJ d13 λ l14=>Tr.call (.call 42 [vs l14] []) λ o15=>WR o15 λ l16 m17=>aR (KN (V.m 1 0 m17) (V.m 2 0 20) 0 c e m n [aC [vs [123,32],vs [125,32],vs [40,32],vs [41,32],vs [49,32],vs [114,101,113,117,105,114,101,100,32],vs [105,51,50,32],vs [97,46,98,32],vs [61,32],vs [44,32],vs [108,105,115,116,60],vs [111,110,101,119,97,121,32],vs [39,116,39,32],vs [49,46,53,32],vs [115,116,114,117,99,116,32],vs [91,32],vs [120,32],vs [58,32],vs [116,104,114,111,119,115,32],vs [116,114,117,101,32]],aC l16,aC l5])))))))):=aF
theorem tR(l0:aE)(b1:Bool)(l2:List D)(n3:Int)(b4:Bool)(l5:List D)(n6:Int):EQ ch (Vo l0 n3 n6 b1 b4 l2 l5 []) ( aV (decide (n6<(↑l2.length:Int))) (aR (Ya l0 n3 n6 b1 b4 (n3==0) l2 l5 [])) (aR (Ya l0 n3 n6 b1 b4 false l2 l5 []))):=aF
theorem tQ(b0:Bool)(l1:List D)(b2:Bool)(l3:List D)(m4:Nat)(n5:Int)(l6:List V)(l7:List V)(l8:List V):EQ ch (KN (V.m 1 0 m4) (V.m 2 0 20) n5 b0 b2 l1 l3 [aC l6,aC l7,aC l8]) ( aV (decide (n5<(↑l1.length:Int))) (aV (decide (n5<(↑l3.length:Int))) (aR (N7 (V.m 1 0 m4) (V.m 2 0 20) n5 b0 b2 (decide ((↑m4:Int)>0)) l1 l3 [aC l6,aC l7,aC l8])) (aR (N7 (V.m 1 0 m4) (V.m 2 0 20) n5 b0 b2 false l1 l3 [aC l6,aC l7,aC l8]))) (aR (N7 (V.m 1 0 m4) (V.m 2 0 20) n5 b0 b2 false l1 l3 [aC l6,aC l7,aC l8]))):=aF
theorem qG(l0:aE)(b1:Bool)(l2:List D)(n3:Int)(b4:Bool)(l5:List D)(n6:Int)(b7:Bool):EQ ch (Ya l0 n3 n6 b1 b4 b7 l2 l5 []) ( aV b7 (aV (decide (i64.wrap (n6+1)<(↑l2.length:Int))) (ob (bW l2 (i64.wrap (n6+1))) λ d0=>aO (d0.width==5) (ob l2[(i64.wrap (n6+1)).toNat]? λ d1=>ob d1.cells[4]? λ d2=>cf .i64 d2 λ n_3_1=>aR (Vg l0 n3 n6 n_3_1 b1 b4 l2 l5 []))) (aR (Vg l0 n3 n6 (↑l0.length:Int) b1 b4 l2 l5 []))) (aR (Sw b4 l5 []))):=aF
theorem BM(b0:Bool)(l1:List D)(b2:Bool)(l3:List D)(m4:Nat)(n5:Int)(b6:Bool)(l7:List V)(l8:List V)(l9:List V):EQ ch (N7 (V.m 1 0 m4) (V.m 2 0 20) n5 b0 b2 b6 l1 l3 [aC l7,aC l8,aC l9]) ( aV b6 (ob (bW l1 n5) λ d0=>aO (d0.width==1) (ob l1[n5.toNat]? λ d1=>ob d1.cells[0]? λ d2=>cf .u16 d2 λ n3=>aO (decide ((↑m4:Int)≠0)) (ob (bW l3 n5) λ d4=>aO (d4.width==1) (ob l3[n5.toNat]? λ d5=>ob d5.cells[0]? λ d6=>cf .u8 d6 λ n7=>aV (n7.tmod 4==0) (aO (decide (0<=(i64.wrap n3).tmod (↑m4:Int)/\(i64.wrap n3).tmod (↑m4:Int)<=(↑m4:Int))) (ob (dK [aC l7,aC l8,aC l9] 1 (V.m 1 0 (((i64.wrap n3).tmod (↑m4:Int)).toNat-0))) λ l_8_1=>aO (bA 1 l_8_1) (aO (decide (0+l_8_1.length<=4294967296)) (aO (decide (0<=i64.wrap ((i64.wrap n3).tmod (↑m4:Int)+1)/\i64.wrap ((i64.wrap n3).tmod (↑m4:Int)+1)<=(↑m4:Int))) (ob (dK [aC l7,aC l8,aC l9] 1 (V.m 1 (0+(i64.wrap ((i64.wrap n3).tmod (↑m4:Int)+1)).toNat) (m4-(i64.wrap ((i64.wrap n3).tmod (↑m4:Int)+1)).toNat))) λ l_9_1=>aO (bA 1 ([]++l_8_1)) (aO (bA 1 l_9_1) (aO (l_8_1.isEmpty||dV l_9_1) (aO (decide (([]++l_8_1).length+l_9_1.length<=4294967296)) (aR (SB (V.m 2 0 20) n5 b0 b2 (l_8_1.isEmpty&&l_9_1.isEmpty) l1 l3 ([]++l_8_1++l_9_1) [aC l7,aC l8,aC l9])))))))))) (aV (n7.tmod 4==1) (aO (decide (0<=(i64.wrap n3).tmod (↑m4:Int)/\(i64.wrap n3).tmod (↑m4:Int)<=(↑m4:Int))) (ob (dK [aC l7,aC l8,aC l9] 1 (V.m 1 0 (((i64.wrap n3).tmod (↑m4:Int)).toNat-0))) λ l10=>aO (bA 1 l10) (aO (decide (0+l10.length<=4294967296)) (aO (decide (0<=(i64.wrap n3).tmod (↑m4:Int)/\(i64.wrap n3).tmod (↑m4:Int)<(↑m4:Int))) (ob l8[0+((i64.wrap n3).tmod (↑m4:Int)).toNat]? λ v11=>bG v11 λ d12=>fJ d12 λ l13=>aO (bA 1 ([]++l10)) (aO (l10.isEmpty||true) (aO (decide (([]++l10).length+1<=4294967296)) (aO (decide (0<=(i64.wrap n3).tmod (↑m4:Int)/\(i64.wrap n3).tmod (↑m4:Int)<=(↑m4:Int))) (ob (dK [aC l7,aC l8,aC l9] 1 (V.m 1 (0+((i64.wrap n3).tmod (↑m4:Int)).toNat) (m4-((i64.wrap n3).tmod (↑m4:Int)).toNat))) λ l14=>aO (bA 1 ([]++l10++[D.s l13])) (aO (bA 1 l14) (aO (l10.isEmpty&&false||dV l14) (aO (decide (([]++l10++[D.s l13]).length+l14.length<=4294967296)) (aR (SB (V.m 2 0 20) n5 b0 b2 (l10.isEmpty&&false&&l14.isEmpty) l1 l3 ([]++l10++[D.s l13]++l14) [aC l7,aC l8,aC l9])))))))))))))) (aV (n7.tmod 4==2) (ob (bW l3 n5) λ d15=>aO (d15.width==1) (ob l3[n5.toNat]? λ d16=>ob d16.cells[0]? λ d17=>cf .u8 d17 λ n18=>aO (decide (0<=(i64.wrap (u8.wrap (n18.tdiv 4))).tmod 20/\(i64.wrap (u8.wrap (n18.tdiv 4))).tmod 20<20)) (ob l7[0+((i64.wrap (u8.wrap (n18.tdiv 4))).tmod 20).toNat]? λ v19=>bG v19 λ d20=>fJ d20 λ l21=>aO (decide (0<=(i64.wrap n3).tmod (↑m4:Int)/\(i64.wrap n3).tmod (↑m4:Int)<(↑m4:Int))) (aO (decide (0+((i64.wrap n3).tmod (↑m4:Int)).toNat<l8.length)&&true) (aR (KI (V.m 1 0 m4) (V.m 2 0 20) n5 b0 b2 l1 l3 [aC l7,aC (l8.set (0+((i64.wrap n3).tmod (↑m4:Int)).toNat) (vs l21)),aC l9])))))) (aO (decide (0<=(i64.wrap n3).tmod (↑m4:Int)/\(i64.wrap n3).tmod (↑m4:Int)<=(↑m4:Int))) (ob (dK [aC l7,aC l8,aC l9] 1 (V.m 1 0 (((i64.wrap n3).tmod (↑m4:Int)).toNat-0))) λ l22=>aO (bA 1 l22) (aO (decide (0+l22.length<=4294967296)) (ob (bW l3 n5) λ d23=>aO (d23.width==1) (ob l3[n5.toNat]? λ d24=>ob d24.cells[0]? λ d25=>cf .u8 d25 λ n26=>aO (decide (0<=(i64.wrap (u8.wrap (n26.tdiv 4))).tmod 20/\(i64.wrap (u8.wrap (n26.tdiv 4))).tmod 20<20)) (ob l7[0+((i64.wrap (u8.wrap (n26.tdiv 4))).tmod 20).toNat]? λ v27=>bG v27 λ d28=>fJ d28 λ l29=>aO (bA 1 ([]++l22)) (aO (l22.isEmpty||true) (aO (decide (([]++l22).length+1<=4294967296)) (aO (decide (0<=(i64.wrap n3).tmod (↑m4:Int)/\(i64.wrap n3).tmod (↑m4:Int)<=(↑m4:Int))) (ob (dK [aC l7,aC l8,aC l9] 1 (V.m 1 (0+((i64.wrap n3).tmod (↑m4:Int)).toNat) (m4-((i64.wrap n3).tmod (↑m4:Int)).toNat))) λ l30=>aO (bA 1 ([]++l22++[D.s l29])) (aO (bA 1 l30) (aO (l22.isEmpty&&false||dV l30) (aO (decide (([]++l22++[D.s l29]).length+l30.length<=4294967296)) (aR (SB (V.m 2 0 20) n5 b0 b2 (l22.isEmpty&&false&&l30.isEmpty) l1 l3 ([]++l22++[D.s l29]++l30) [aC l7,aC l8,aC l9]))))))))))))))))))))) (aR (Lq (V.m 1 0 m4) [] 0 [aC l8,aC l9]))):=aF
theorem I2(l0:aE)(b1:Bool)(l2:List D)(n3:Int)(b4:Bool)(l5:List D)(n6:Int)(n7:Int):EQ ch (Vg l0 n3 n6 n7 b1 b4 l2 l5 []) ( ob (bW l2 n6) λ d0=>aO (d0.width==5) (ob l2[n6.toNat]? λ d1=>ob d1.cells[4]? λ d2=>cf .i64 d2 λ n_3_1=>aO (decide (0<=n7/\n7<=(↑l0.length:Int))) (aO (decide (0<=n_3_1/\n_3_1<=(↑n7.toNat:Int))) (aO (bA 1 l5) (aO (b4||true) (aO (decide (l5.length+1<=4294967296)) (aR (Vo l0 n3 (i64.wrap (n6+1)) b1 (b4&&false) l2 (l5++[D.s (List.take (n7.toNat-n_3_1.toNat) (List.drop n_3_1.toNat l0))]) [])))))))):=aF
theorem Tc(b0:Bool)(l1:List D):EQ ch (Sw b0 l1 []) ( aO (l1.all xH) (aR (.at_ 42 0 (aJ 31) (sv 50 [(6,V.m 0 0 l1.length)]) [] [aC (List.map V.d l1)]))):=aF
theorem Ov(b0:Bool)(l1:List D)(b2:Bool)(l3:List D)(b4:Bool)(l5:List D)(n6:Int)(l7:List V)(l8:List V)(l9:List V):EQ ch (SB (V.m 2 0 20) n6 b0 b2 b4 l1 l3 l5 [aC l7,aC l8,aC l9]) ( aO (l5.all xH) (aO ((sv 133 [(1,vl b0 l1),(2,vl b2 l3),(8,V.m 2 0 20),(9,vi n6)]).all (jk 1)) (aO (jy 1 [aC l7,aC l8,aC l9]) (aR (KI (V.m 1 0 l5.length) (V.m 2 0 20) n6 b0 b2 l1 l3 [aC l7,aC (List.map V.d l5),aC l9]))))):=aF
theorem Gx(b0:Bool)(l1:List D)(b2:Bool)(l3:List D)(m4:Nat)(n5:Int)(l6:List V)(l7:List V)(l8:List V):EQ ch (KI (V.m 1 0 m4) (V.m 2 0 20) n5 b0 b2 l1 l3 [aC l6,aC l7,aC l8]) ( aR (KN (V.m 1 0 m4) (V.m 2 0 20) (i64.wrap (n5+1)) b0 b2 l1 l3 [aC l6,aC l7,aC l8])):=aF
theorem BL(m0:Nat)(l1:aE)(n2:Int)(l3:List V)(l4:List V):EQ ch (Lq (V.m 1 0 m0) l1 n2 [aC l3,aC l4]) ( aV (decide (n2<(↑m0:Int))) (aO (decide (0<=n2/\n2<(↑m0:Int))) (ob l3[0+n2.toNat]? λ v0=>bG v0 λ d1=>fJ d1 λ l2=>dP (l1.length+l2.length) (aR (Lq (V.m 1 0 m0) (l1++l2) (i64.wrap (n2+1)) [aC l3,aC l4])))) (Tr.ret (vs l1,[]))):=aF
end Go.Dn.Dec
namespace Go.Dn.Dec.Pa
open Go.IntKind (i64 u64 u8 u16 i32 u32)
open Go.Proofs
set_option maxRecDepth 100000
theorem Jx{k:Nat}(h1:¬(k=20\/k=96\/k=98))(h2:k=10\/k=11\/k=13):ch.ext k=some (lV Tryz.prog bT k):=by simp only[ch,Ub,aaN h1,aaR h2]
theorem WE{k:Nat}{args:List V}{o:Out}(h:RY (.call k args [])=some o)(h1:¬(k=20\/k=96\/k=98))(h2:k=10\/k=11\/k=13):RU (.call k args [])=some o:=by
 rw[uj (Jx h1 h2)];have:=iL h;unfold lV;split
 ·rename_i heq;cases heq
 ·exact this
theorem Yg{k:Nat}{args:List V}{b:Ob}{o:Out}(h:RY (.call k args [b])=some o)(h1:¬(k=20\/k=96\/k=98))(h2:k=10\/k=11\/k=13):RU (.call k args [b])=some o:=by
 rw[uj (Jx h1 h2)];have:=iL h;unfold lV;split
 ·rename_i heq;simp at heq
 ·exact this
abbrev wC(ws:List aE):List V:=(ws.map D.s).map V.d
theorem Td(ws:List aE):(wC ws).length=ws.length:=by simp[wC]
theorem I5{ws:List aE}{i:Nat}{w:aE}(h:ws[i]?=some w):(wC ws)[i]?=some (vs w):=by simp[wC,h]
theorem Yh(ws:List aE)(i:Nat)(w:aE):(wC ws).set i (vs w)=wC (ws.set i w):=by simp[wC,List.map_set]
theorem ES(ws:List aE):(ws.map D.s).all xH=true:=by simp[xH]
theorem CO(ws:List aE):dV (ws.map D.s)=true:=by simp[dV,D.cells,V.one]
theorem oI(ws:List aE):bA 1 (ws.map D.s)=true:=by cases ws<;>rfl
theorem iW{f:Task->Option Out}{c:Bool}{X:Tr}(h:c=true):aD f (aO c X)=aD f X:=by rw[h];exact aQ
theorem Gd{W:List Tok}{i:Nat}(h:i<W.length):(zn W)[i]?=some W[i].D:=by unfold zn;rw[List.getElem?_map,abl h];rfl
theorem I1(cs:List V)(n:Nat):EQ ch (.at_ 42 0 (aJ 31) (sv 50 [(6,.m 0 0 n)]) [] [aC cs]) (ob (zJ 0 (.m 0 0 n) [aC cs]) .ret):=aF
theorem Kd(b:Nat)(ws:List aE):bI b (wC ws)=true:=oy _ _
theorem L9(ws:List aE)(b:Bool):RU (Sw b (ws.map .s) [])=some (.m 0 0 ws.length,[aC (wC ws)]):=by
 rw[RU];refine(Tc ..).trans ?_;rw[ES,aQ,List.length_map];refine aM ?_;refine(I1 ..).trans ?_;have:zJ 0 (.m 0 0 ws.length) [aC (wC ws)]=some (.m 0 0 ws.length,[aC (wC ws)]):=by show (if 0<=0 then(if bI 0 (wC ws)=true/\0<=1 then some (V.m 0 0 ws.length,aC (wC ws)::nP 0 [aC (wC ws)])else none)else some (V.m 0 0 ws.length,nP 0 [aC (wC ws)]))=_;rw[aaR (aa4 _),aaR ⟨Kd 0 ws,by decide⟩];rfl
 rw[this];rfl
theorem zb(s:aE)(hs:s.length<=2000)(tb:Bool)(W:List Tok)(hlen:W.length<=100000)(hat:∀(i:Nat) (h:i<W.length),W[i].at_<=s.length)(hup:∀(i:Nat) (h:i+1<W.length),(W[i]'(by omega)).at_<=W[i+1].at_):
  ∀(m i:Nat) (ws:List aE) (b:Bool),i+m=W.length->ws.length=i->(∀w∈ws,w.length<=200000)->
   ∃ws':List aE,ws'.length<=100000/\(∀w∈ws',w.length<=200000)/\RU (Vo s 0 (i:Int) tb b (zn W) (ws.map .s) [])=some (.m 0 0 ws'.length,[aC (wC ws')])
 |0,i,ws,b,hi,hw,hl=>by
  refine⟨ws,by omega,hl,?_⟩;have e:(zn W).length=W.length:=by simp[zn]
  rw[RU,tR,e,bB];refine aM ?_;rw[qG,bH];exact aM (L9 ws b)
 |m+1,i,ws,b,hi,hw,hl=>by
  have hlt:i<W.length:=by omega
  have e:(zn W).length=W.length:=by simp[zn]
  have h1:=hat i hlt;have last:∀to:Nat,W[i].at_<=to->to<=s.length->∃ws':List aE,ws'.length<=100000/\(∀w∈ws',w.length<=200000)/\RU (Vg s 0 (i:Int) (to:Int) tb b (zn W) (ws.map .s) [])=some (.m 0 0 ws'.length,[aC (wC ws')]):=by
   intro to h2 h3;obtain⟨ws',g1,g2,g3⟩:=zb s hs tb W hlen hat hup m (i+1) (ws++[List.take (to-W[i].at_) (List.drop W[i].at_ s)]) (b&&false) (by omega) (by simp;omega) (λ w h=>by
    rcases List.mem_append.1 h with h|h
    ·exact hl w h
    ·rw[abK.1 h,List.length_take,abB];omega)
   refine⟨ws',g1,g2,?_⟩;rw[RU];refine(I2 ..).trans ?_;refine(uV (i:=i) (j:=4) (Gd hlt) rfl rfl).trans ?_;rw[aN,aN];refine(iW (oI ws)).trans ?_;refine(iW (show (b||true)=true by simp)).trans ?_;rw[aN (by simp;omega),iZ];refine aM ?_;rw[abe,abe];simp only[List.map_append,List.map_cons,List.map_nil]at g3;exact g3
  by_cases h2:i+1<W.length
  ·have h3:=hat (i+1) h2;have h4:=hup i h2;obtain⟨ws',g1,g2,g3⟩:=last W[i+1].at_ h4 h3;refine⟨ws',g1,g2,?_⟩;rw[RU,tR,e,bC];refine aM ?_;rw[show ((0:Int)==0)=true from rfl,qG,e,bQ,iZ,bC];rw[show ((i:Int)+1)=((i+1:Nat):Int) by omega];refine(uV (i:=i+1) (j:=4) (Gd h2) rfl rfl).trans ?_;exact aM g3
  ·obtain⟨ws',g1,g2,g3⟩:=last s.length h1 (aa4 _);refine⟨ws',g1,g2,?_⟩;rw[RU,tR,e,bC];refine aM ?_;rw[show ((0:Int)==0)=true from rfl,qG,e,bQ,iZ,bB];exact aM g3
theorem Qa(s:aE):(∃W,lexB s=(W,0,0)/\s.length<=2000/\W.length<=100000/\(∀(i:Nat) (h:i<W.length),W[i].at_<=s.length)/\∀(i:Nat) (h:i+1<W.length),(W[i]'(by omega)).at_<=W[i+1].at_)\/∃e w,lexB s=([],e,w)/\e≠0:=by
 rcases rL s with⟨l',hg,he⟩|⟨e,w,he,hne,-⟩
 ·left;have hs:s.length<=2000:=by
   apply Nat.le_of_not_lt;intro h;unfold lexB at he;rw[aaR h]at he;injection he with _ he
   injection he with he
   cases he
  have hlen:=EY s;rw[he]at hlen;obtain⟨g1,g2⟩:=hg;have hat:∀(i:Nat) (h:i<(l'++[(⟨6,[],0,0,s.length⟩:Tok)]).length),(l'++[(⟨6,[],0,0,s.length⟩:Tok)])[i].at_<=s.length:=by
   intro i h;rcases abn i l'.length with h1|h1
   ·rw[List.getElem_append_left h1];exact Nat.le_of_lt (g1 _ (List.getElem_mem h1)).2.2
   ·rw[List.getElem_append_right h1];simp
  refine⟨_,he,hs,hlen,hat,λ i h=>?_⟩;rcases abn (i+1) l'.length with h1|h1
  ·rw[List.getElem_append_left (show i<l'.length by omega),List.getElem_append_left h1]
   exact Nat.le_of_lt (List.pairwise_iff_getElem.1 g2 i (i+1) (by omega) h1 (by omega))
  ·rw[List.getElem_append_right h1];simp only[List.getElem_singleton];exact hat i (by omega)
 ·exact .inr ⟨e,w,he,hne⟩
theorem VV(s:aE):∃ws:List aE,ws.length<=100000/\(∀w∈ws,w.length<=200000)/\RU (.call 42 [vs s] [])=some (.m 0 0 ws.length,[aC (wC ws)]):=by
 have hl:RU (.call 20 [vs s] [])=some (pJ (lexB s)):=I3 (DT s) (by decide);unfold pJ at hl;rcases Qa s with⟨W,he,hs,hlen,hat,hup⟩|⟨e,w,he,hne⟩
 ·rw[he]at hl;obtain⟨ws,h1,h2,h3⟩:=zb s hs W.isEmpty W hlen hat hup W.length 0 [] true (by omega) rfl (λ _ h=>(by cases h));refine⟨ws,h1,h2,?_⟩;rw[RU,ZK];refine(IE hl).trans ?_;exact aM h3
 ·rw[he]at hl;refine⟨[],by simp,(λ _ h=>(by cases h)),?_⟩;rw[RU,ZK];refine(IE hl).trans ?_;refine aM ?_;rw[RU,tR,show (zn []).length=0 from rfl,bB];refine aM ?_;rw[qG,bH];exact aM (L9 [] true)
def kW:List aE:=[[123,32],[125,32],[40,32],[41,32],[49,32],[114,101,113,117,105,114,101,100,32],[105,51,50,32],[97,46,98,32],[61,32],[44,32],[108,105,115,116,60],[111,110,101,119,97,121,32],[39,116,39,32],[49,46,53,32],[115,116,114,117,99,116,32],[91,32],[120,32],[58,32],[116,104,114,111,119,115,32],[116,114,117,101,32]]
theorem Qo(i:Nat)(h:i<20):∃t,kW[i]?=some t/\t.length<=200000:=by
 have hl:kW.length=20:=rfl;refine⟨kW[i]'(by omega),abl (by omega),?_⟩;have:∀t∈kW,t.length<=9:=by decide
 have:=this _ (List.getElem_mem (show i<kW.length by omega));omega
theorem IJ(x y:Ob)(ws:List aE)(off n:Nat)(h:off+n<=ws.length):dK [x,aC (wC ws),y] 1 (.m 1 off n)=some (((ws.drop off).take n).map D.s):=by show (if 1=1 then(if off+n<=(wC ws).length then y5 (((wC ws).drop off).take n)else none)else none)=_;rw[aaR rfl,aaR (by rw[Td];exact h),<-List.map_drop,<-List.map_take,tP,<-List.map_drop,<-List.map_take]
theorem DF(r:List V)(ws:List aE)(hl:ws.length<=1000000)(hw:∀w∈ws,w.length<=200000):∀(m i:Nat) (t:aE),i+m=ws.length->t.length<=200000*i->
  ∃t':aE,RU (Lq (.m 1 0 ws.length) t (i:Int) [aC (wC ws),aC r])=some (vs t',[])
 |0,i,t,hi,ht=>⟨t,by rw[RU,BL,bB];rfl⟩
 |m+1,i,t,hi,ht=>by
  have hlt:i<ws.length:=by omega
  have hx:=hw _ (List.getElem_mem hlt);obtain⟨t',h⟩:=DF r ws hl hw m (i+1) (t++ws[i]) (by omega) (by simp;omega);refine⟨t',?_⟩;rw[RU,BL,bC,aN,abe,abv];refine(bz (I5 (abl hlt))).trans ?_;refine(show _=_ from rfl:aD (rk Tryz.prog ch) _=aD (rk Tryz.prog ch) (aO (decide (t.length+(ws[i]).length<4611686018427387904)) _)).trans ?_;rw[aN,iZ];exact aM h
def Wk(ws:List aE)(i:Nat):Prop:=ws.length<=100000+i/\∀w∈ws,w.length<=200000
theorem uu(k:IntKind)(zs:List Int):(ints k zs).all ER=true:=by simp[ints,ER]
abbrev tH(ba bh:Bool)(az hz:List Int)(ws:List aE)(i:Nat)(r:List V):Task:=
 KN (.m 1 0 ws.length) (.m 2 0 20) (i:Int) ba bh (ints .u16 az) (ints .u8 hz) [aC (wC kW),aC (wC ws),aC r]
theorem Gq(ba bh:Bool)(az hz:List Int)(ws:List aE)(i:Nat)(r:List V)(hi:i<1000):
  RU (KI (.m 1 0 ws.length) (.m 2 0 20) (i:Int) ba bh (ints .u16 az) (ints .u8 hz) [aC (wC kW),aC (wC ws),aC r])=RU (tH ba bh az hz ws (i+1) r):=by
 rw[RU,Gx,iZ];exact aA _
theorem Uj(ba bh:Bool)(la lh:List D)(n:Int):(sv 133 [(1,vl ba la),(2,vl bh lh),(8,.m 2 0 20),(9,vi n)]).all (jk 1)=(la.all ER&&(lh.all ER&&true)):=by kernel_rfl
theorem Ui(l r:List V):jy 1 [aC (wC kW),aC l,aC r]=(r.all (jk 1)&&true):=by kernel_rfl
theorem yY(ba bh:Bool)(az hz:List Int)(c:Bool)(ws:List aE)(i:Nat)(l r:List V)(hr:r.all (jk 1)=true)(hi:i<1000):
  RU (SB (.m 2 0 20) (i:Int) ba bh c (ints .u16 az) (ints .u8 hz) (ws.map .s) [aC (wC kW),aC l,aC r])=RU (tH ba bh az hz ws (i+1) r):=by
 rw[RU,Ov,ES,aQ,Uj,uu,uu];refine(iW rfl).trans ?_;rw[Ui,hr];refine(iW rfl).trans ?_;rw[List.length_map];exact(aA _).trans (Gq ba bh az hz ws i r hi)
theorem Uz{n:Int}(hn:0<=n/\n<256):∃t,0<=(i64.wrap (u8.wrap (n.tdiv 4))).tmod 20/\(i64.wrap (u8.wrap (n.tdiv 4))).tmod 20<20/\(wC kW)[0+((i64.wrap (u8.wrap (n.tdiv 4))).tmod 20).toNat]?=some (vs t)/\t.length<=200000:=by
 obtain⟨N,rfl⟩:∃N:Nat,n=(N:Int):=⟨n.toNat,by omega⟩
 have e1:(N:Int).tdiv 4=((N / 4:Nat):Int):=rfl;rw[e1,wrap_u8 (by omega) (by omega),iZ];have e2:((N / 4:Nat):Int).tmod 20=((N / 4%20:Nat):Int):=rfl;rw[e2,abe,abv];obtain⟨t,h1,h2⟩:=Qo (N / 4%20) (abz _ (by decide));exact⟨t,by omega,by omega,I5 h1,h2⟩
theorem Om(ba bh:Bool)(az hz:List Int)(ha:∀z∈az,0<=z/\z<65536)(hh:∀z∈hz,0<=z/\z<256)(hal:az.length<=3)(r:List V)(hr:r.all (jk 1)=true):∀(m i:Nat) (ws:List aE),i+m=az.length->Wk ws i->∃t:aE,RU (tH ba bh az hz ws i r)=some (vs t,[]):=by
 have done:∀(ws:List aE) (i:Nat),Wk ws i->i<=3->∃t:aE,RU (N7 (.m 1 0 ws.length) (.m 2 0 20) (i:Int) ba bh false (ints .u16 az) (ints .u8 hz) [aC (wC kW),aC (wC ws),aC r])=some (vs t,[]):=by intro ws i hw hi;obtain⟨t,h⟩:=DF r ws (by have:=hw.1;omega) hw.2 ws.length 0 [] (by omega) (by simp);refine⟨t,?_⟩;rw[RU,BM,bH];exact aM h
 intro m
 induction m with
 |zero=>
  intro i ws hi hw;obtain⟨t,h⟩:=done ws i hw (by omega);refine⟨t,?_⟩;rw[RU,tQ,cL,bB];exact aM h
 |succ m ih=>
  intro i ws hi hw;obtain⟨t0,h0⟩:=done ws i hw (by omega);have hia:i<az.length:=by omega
  by_cases hih:i<hz.length;rotate_left
  ·refine⟨t0,?_⟩;rw[RU,tQ,cL,bC,cL,bB];exact aM h0
  by_cases hpos:0<ws.length;rotate_left
  ·refine⟨t0,?_⟩;rw[RU,tQ,cL,bC,cL,bC,abf (show ¬((ws.length:Int)>0) by omega)];exact aM h0
  have hA:=ha _ (List.getElem_mem hia);have hH:=hh _ (List.getElem_mem hih);have gA:(ints .u16 az)[i]?=some (.i .u16 az[i]):=by rw[eW,abl hia];rfl
  have gH:(ints .u8 hz)[i]?=some (.i .u8 hz[i]):=by rw[eW,abl hih];rfl
  generalize az[i]=A at hA gA;generalize hz[i]=H at hH gH;have w1:i64.wrap A=A:=bD;obtain⟨N,rfl⟩:∃N:Nat,A=(N:Int):=⟨A.toNat,by omega⟩
  have e:(N:Int).tmod (ws.length:Int)=((N%ws.length:Nat):Int):=rfl;have hlt:=abz N hpos;generalize N%ws.length=k at e hlt;obtain⟨M,rfl⟩:∃M:Nat,H=(M:Int):=⟨H.toNat,by omega⟩
  have eM:(M:Int).tmod 4=((M%4:Nat):Int):=rfl;obtain⟨mt,m1,m2,m3,m4⟩:=Uz hH;have hwl:=hw.1;have hmem:∀w∈ws,w.length<=200000:=hw.2;have step:∀ws':List aE,ws'.length<=ws.length+1->(∀w∈ws',w.length<=200000)->∃t:aE,RU (tH ba bh az hz ws' (i+1) r)=some (vs t,[]):=λ ws' h1 h2=>ih (i+1) ws' (by omega) ⟨by omega,h2⟩;have hmt:∀w∈ws.take k,w.length<=200000:=λ w h=>hmem w (List.mem_of_mem_take h);have hmd:∀j,∀w∈ws.drop j,w.length<=200000:=λ j w h=>hmem w (List.mem_of_mem_drop h);have t1:dK [aC (wC kW),aC (wC ws),aC r] 1 (.m 1 0 (((k:Nat):Int).toNat-0))=some ((ws.take k).map D.s):=by rw[abe,Nat.sub_zero,IJ _ _ ws 0 k (by omega),List.drop_zero]
  have t2:dK [aC (wC kW),aC (wC ws),aC r] 1 (.m 1 (0+((k:Nat):Int).toNat) (ws.length-((k:Nat):Int).toNat))=some ((ws.drop k).map D.s):=by rw[abe,abv,IJ _ _ ws k _ (by omega),abS (by rw[abB];omega)]
  have lt1:(ws.take k).length<=100010:=by rw[List.length_take];omega
  have start:∀(o:Option Out),RU (N7 (.m 1 0 ws.length) (.m 2 0 20) (i:Int) ba bh true (ints .u16 az) (ints .u8 hz) [aC (wC kW),aC (wC ws),aC r])=o->RU (tH ba bh az hz ws i r)=o:=by intro o h;rw[RU,tQ,cL,bC,cL,bC,aa3 (show ((ws.length:Int)>0) by omega)];exact(aA _).trans h
  have q4:M%4=0\/M%4=1\/M%4=2\/M%4=3:=by omega
  have body:RU _=aD RU _:=BM ba (ints .u16 az) bh (ints .u8 hz) ws.length (i:Int) true (wC kW) (wC ws) r;rw[bQ]at body;rcases q4 with q|q|q|q
  ·-- taken out
   obtain⟨t,h⟩:=step (ws.take k++ws.drop (k+1)) (by simp;omega) (λ w h=>by
    rcases List.mem_append.1 h with h|h
    ·exact hmt w h
    ·exact hmd _ w h)
   refine⟨t,start _ (body.trans ?_)⟩;refine(uV (j:=0) gA rfl rfl).trans ?_;rw[w1,e,aN];refine(uV (j:=0) gH rfl rfl).trans ?_;rw[eM,bM,aN];refine(bz t1).trans ?_;refine(iW (oI _)).trans ?_;rw[aN (by rw[List.length_map];omega),iZ,aN];have t3:dK [aC (wC kW),aC (wC ws),aC r] 1 (.m 1 (0+((k:Int)+1).toNat) (ws.length-((k:Int)+1).toNat))=some ((ws.drop (k+1)).map D.s):=by rw[show ((k:Int)+1).toNat=k+1 by omega,abv,IJ _ _ ws (k+1) _ (by omega),abS (by rw[abB];omega)]
   refine(bz t3).trans ?_;refine(iW (oI _)).trans ?_;refine(iW (oI _)).trans ?_;refine(iW (by rw[CO,Bool.or_true])).trans ?_;rw[aN (by simp;omega),List.nil_append,<-List.map_append];exact(aA _).trans ((yY ba bh az hz _ _ i _ r hr (by omega)).trans h)
  ·-- doubled
   have hk:ws[k]?=some ws[k]:=abl hlt;obtain⟨t,h⟩:=step (ws.take k++[ws[k]]++ws.drop k) (by simp;omega) (λ w h=>by
    rcases List.mem_append.1 h with h|h
    ·rcases List.mem_append.1 h with h|h
     ·exact hmt w h
     ·rw[abK.1 h];exact hmem _ (List.getElem_mem hlt)
    ·exact hmd _ w h)
   refine⟨t,start _ (body.trans ?_)⟩;refine(uV (j:=0) gA rfl rfl).trans ?_;rw[w1,e,aN];refine(uV (j:=0) gH rfl rfl).trans ?_;rw[eM,bp,bM,aN];refine(bz t1).trans ?_;refine(iW (oI _)).trans ?_;rw[aN (by rw[List.length_map];omega),aN];refine(bz (a:=vs ws[k]) (by rw[abe,abv];exact I5 hk)).trans ?_;show aD RU (aO (bA 1 ([]++(ws.take k).map D.s)) _)=_;refine(iW (oI _)).trans ?_;refine(iW (by rw[Bool.or_true])).trans ?_;rw[aN (by simp;omega),aN];refine(bz t2).trans ?_;have hcat:[]++(ws.take k).map D.s++[D.s ws[k]]=(ws.take k++[ws[k]]).map D.s:=by rw[List.nil_append,List.map_append];rfl
   rw[hcat];refine(iW (oI _)).trans ?_;refine(iW (oI _)).trans ?_;refine(iW (by rw[CO,Bool.or_true])).trans ?_;rw[aN (by simp;omega),<-List.map_append];exact(aA _).trans ((yY ba bh az hz _ _ i _ r hr (by omega)).trans h)
  ·-- another one's
   obtain⟨t,h⟩:=step (ws.set k mt) (by simp) (λ w h=>by
    rcases List.mem_or_eq_of_mem_set h with h|h
    ·exact hmem w h
    ·rw[h];exact m4)
   refine⟨t,start _ (body.trans ?_)⟩;refine(uV (j:=0) gA rfl rfl).trans ?_;rw[w1,e,aN];refine(uV (j:=0) gH rfl rfl).trans ?_;rw[eM,bp,bp,bM];refine(uV (j:=0) gH rfl rfl).trans ?_;rw[aN ⟨m1,m2⟩];refine(bz m3).trans ?_;show aD RU (aO (decide (0<=((k:Nat):Int)/\((k:Nat):Int)<(ws.length:Int))) _)=_;rw[aN,abe,abv];refine(iW (by rw[aa3 (show k<(wC ws).length by rw[Td];exact hlt)];rfl)).trans ?_;rw[Yh];have:=(Gq ba bh az hz (ws.set k mt) i r (by omega)).trans h;rw[List.length_set]at this;exact(aA _).trans this
  ·-- another one's ahead of it
   obtain⟨t,h⟩:=step (ws.take k++[mt]++ws.drop k) (by simp;omega) (λ w h=>by
    rcases List.mem_append.1 h with h|h
    ·rcases List.mem_append.1 h with h|h
     ·exact hmt w h
     ·rw[abK.1 h];exact m4
    ·exact hmd _ w h)
   refine⟨t,start _ (body.trans ?_)⟩;refine(uV (j:=0) gA rfl rfl).trans ?_;rw[w1,e,aN];refine(uV (j:=0) gH rfl rfl).trans ?_;rw[eM,bp,bp,bp,aN];refine(bz t1).trans ?_;refine(iW (oI _)).trans ?_;rw[aN (by rw[List.length_map];omega)];refine(uV (j:=0) gH rfl rfl).trans ?_;rw[aN ⟨m1,m2⟩];refine(bz m3).trans ?_;show aD RU (aO (bA 1 ([]++(ws.take k).map D.s)) _)=_;refine(iW (oI _)).trans ?_;refine(iW (by rw[Bool.or_true])).trans ?_;rw[aN (by simp;omega),aN];refine(bz t2).trans ?_;have hcat:[]++(ws.take k).map D.s++[D.s mt]=(ws.take k++[mt]).map D.s:=by rw[List.nil_append,List.map_append];rfl
   rw[hcat];refine(iW (oI _)).trans ?_;refine(iW (oI _)).trans ?_;refine(iW (by rw[CO,Bool.or_true])).trans ?_;rw[aN (by simp;omega),<-List.map_append];exact(aA _).trans ((yY ba bh az hz _ _ i _ r hr (by omega)).trans h)
theorem SY(zs az hz:List Int)(h1:∀z∈zs,0<=z/\z<256)(h2:∀z∈az,0<=z/\z<65536)(h3:∀z∈hz,0<=z/\z<256)(l1:zs.length<=100)(l2:az.length<=3)(ba bh:Bool):
  ∃t:aE,RU (.call 17 (fI false ba bh (ints .u8 zs) (ints .u16 az) (ints .u8 hz)) [])=some (vs t,[]):=by
 obtain⟨x,rs,n1,hx,_,_,_,e1⟩:=Ug (Zg h1 (by omega));have wx:=Ux hx;have lx:(mN x).length<=900000000:=abI (M9 hx) (by omega);obtain⟨ws,g1,g2,g3⟩:=VV (mN x);obtain⟨t,ht⟩:=Om ba bh az hz h2 h3 l2 (jb zs n1) (by simp[jk,uu]) az.length 0 ws (by omega) ⟨by omega,g2⟩;refine⟨t,?_⟩;have p2:=WE (UU x wx lx) (by decide) (by decide);have m1:=WE (XB zs) (by decide) (by decide);have f1:=Yg e1 (by decide) (by decide);have gx:(x::rs)[0]?=some x:=rfl;rw[RU,aa6];refine(aaO m1 rfl).trans ?_;refine(uN (m:=2) (fl':=[]) f1).trans ?_;obtain⟨_,_,_,_,rfl,_⟩:=hx;refine(j0 (i:=0) gx rfl).trans ?_;refine(gG p2).trans ?_;refine(cr g3).trans ?_;show aD RU (aO (bI 0 (wC ws)) _)=_;rw[Kd,aQ];exact aM ht
end Go.Dn.Dec.Pa
namespace Go.Dn.Dec
open Go.IntKind (i64 u64 u8 u16 i32 u32)
open Go.Proofs
theorem y56(d:List V)(c:V)(b:Bool)(l:List D)(s:aE):EQ bT (.call 56 [.p 1 0,vs s] [.cells [c,vl b l] bF,aC d]) (c2 (.call 122 [.p 1 0] [.cells [c,vl b l] bF,aC d]) 2 bF d.length [] λ a e f=>dI a λ g=>aO (g.length==0) (ob e[1]? λ h=>bG ((sv 19 [(0,.p 1 0),(1,vs s),(4,vi 0),(5,V.nifc),(6,.p 1 0),(7,.t []),(8,.p 1 0),(9,.p 1 0),(10,.p 1 0),(11,.p 1 1),(12,h),(13,vs s)]).getD 12 V.u) λ j=>gX j λ k m=>aO (bA 1 m) (aO (bA 1 (ofBytes s)) (aO (k||dV (ofBytes s)) (aO (decide (m.length+(ofBytes s).length<=4294967296)) (aO (decide (1<e.length)&&true) (.ret (.t [vi (s.length:Int),V.nifc],[.cells (e.set 1 (vl (k&&(ofBytes s).isEmpty) (m++ofBytes s))) bF,aC f])))))))):=aF
theorem y27(d c:List V)(b:Bool)(l:List D):EQ bT (.call 27 [.p 1 0,vl b l] [.cells c bF,aC d]) (aR (KG (l.length:Int) 0 b l [.cells c bF,aC d])):=aF
theorem y58(d c:List V)(nm:aE)(h:Bool)(n:Int):EQ bT (.call 58 [.p 1 0,.d (.g [.s nm,.b h,.i .i64 n])] [.cells c bF,aC d]) (c2 (.call 27 [.p 1 0,vl true [.s [32,32],.s nm]] [.cells c bF,aC d]) c.length bF d.length [] λ a e f=>dI a λ j=>aO (j.length==0) (aV h (cV (.call 49 [vi n,vi 10] []) λ k=>aS k λ m=>c2 (.call 27 [.p 1 0,vl true [.s [32,61,32],.s m]] [.cells e bF,aC f]) e.length bF f.length [] λ o q r=>dI o λ t=>aO (t.length==0) (aR (LY [.cells q bF,aC r]))) (aR (LY [.cells e bF,aC f])))):=aF
theorem y60(d c:List V)(nm:aE)(ow:Bool)(ret:aE)(ab:Bool)(al:List D)(tb:Bool)(tl:List D):EQ bT (.call 60 [.p 1 0,.d (.g [.s nm,.b ow,.s ret,.l ab al,.l tb tl])] [.cells c bF,aC d]) (c2 (.call 27 [.p 1 0,vl true [.s [32,32]]] [.cells c bF,aC d]) c.length bF d.length [] λ a e f=>dI a λ h=>aO (h.length==0) (aV ow (c2 (.call 27 [.p 1 0,vl true [.s [111,110,101,119,97,121,32]]] [.cells e bF,aC f]) e.length bF f.length [] λ i j k=>dI i λ m=>aO (m.length==0) (aR (Lz [aC (zl nm ret ow ab tb al tl),.cells j bF,aC k]))) (aR (Lz [aC (zl nm ret ow ab tb al tl),.cells e bF,aC f])))):=aF
theorem Ym(d c:List V)(kd:Int)(nm ty:aE)(ck cn cu:Int)(cs:aE)(cb:Bool)(cl:List D)(fb:Bool)(fl:List D)(mb:Bool)(ml:List D)(ex:aE)(tb:Bool)(tl:List D):EQ bT (.call 29 [.p 1 0,.d (.g [.i .i64 kd,.s nm,.s ty,.i .i64 ck,.i .i64 cn,.i .u64 cu,.s cs,.l cb cl,.l fb fl,.l mb ml,.s ex,.l tb tl])] [.cells c bF,aC d]) (aV (kd==1) (c2 (.call 27 [.p 1 0,vl true [.s [116,121,112,101,100,101,102,32],.s ty,.s [32],.s nm,.s [10]]] [.cells c bF,aC d]) c.length bF d.length [] λ a e f=>dI a λ h=>aO (h.length==0) (.ret (.t [],[.cells e bF,aC f]))) (aV (kd==3) (cV (.call 23 [.d (.g [.i .i64 ck,.i .i64 cn,.i .u64 cu,.s cs,.l cb cl])] []) λ j=>aS j λ k=>c2 (.call 27 [.p 1 0,vl true [.s [99,111,110,115,116,32],.s ty,.s [32],.s nm,.s [32,61,32],.s k,.s [10]]] [.cells c bF,aC d]) c.length bF d.length [] λ m n o=>dI m λ q=>aO (q.length==0) (.ret (.t [],[.cells n bF,aC o]))) (aV (kd==2) (c2 (.call 27 [.p 1 0,vl true [.s [101,110,117,109,32],.s nm,.s [32,123,10]]] [.cells c bF,aC d]) c.length bF d.length [] λ r zu v=>dI r λ w=>aO (w.length==0) (aR (VL (ml.length:Int) 0 mb ml [.cells zu bF,aC v]))) (aV (kd==4) (aR (N6 kd (kd==4) [aC (dp nm ty cs ex kd ck cn cu cb fb mb tb cl fl ml tl),.cells c bF,aC d])) (aV (kd==5) (aR (N6 kd (kd==5) [aC (dp nm ty cs ex kd ck cn cu cb fb mb tb cl fl ml tl),.cells c bF,aC d])) (aR (N6 kd (kd==6) [aC (dp nm ty cs ex kd ck cn cu cb fb mb tb cl fl ml tl),.cells c bF,aC d]))))))):=aF
theorem y12(ib:Bool)(il:List D)(sb:Bool)(sl:List D)(db:Bool)(dl:List D):EQ bT (.call 12 [.d (.g [.l ib il,.l sb sl,.l db dl])] []) (aR (Vs (il.length:Int) 0 ib il [.cells [.d D.np,vl true []] bF,aC (fI ib sb db il sl dl)])):=aF
theorem ZN(ab:Bool)(al:List D)(n m:Int)(c:V)(b:Bool)(l:List D)(ib:Bool)(il:List D)(sb:Bool)(sl:List D)(db:Bool)(dl:List D):EQ bT (Vs n m ab al [.cells [c,vl b l] bF,aC (fI ib sb db il sl dl)]) (aV (decide (m<n)) (eC al m 1 0 λ a=>fJ a λ e=>cV (.call 28 [vs e] []) λ f=>aS f λ g=>c2 (.call 27 [.p 1 0,vl true [.s [105,110,99,108,117,100,101,32],.s g,.s [10]]] [.cells [c,vl b l] bF,aC (fI ib sb db il sl dl)]) 2 bF 3 [] λ h j k=>dI h λ o=>aO (o.length==0) (aR (Vs n (i64.wrap (m+1)) ab al [.cells j bF,aC k]))) (aR (Vt (sl.length:Int) 0 sb sl [.cells [c,vl b l] bF,aC (fI ib sb db il sl dl)]))):=aF
theorem ZO(ab:Bool)(al:List D)(n m:Int)(c:V)(b:Bool)(l:List D)(ib:Bool)(il:List D)(sb:Bool)(sl:List D)(db:Bool)(dl:List D):EQ bT (Vt n m ab al [.cells [c,vl b l] bF,aC (fI ib sb db il sl dl)]) (aV (decide (m<n)) (eL al m 2 λ a=>aO ([.d (gD 2 0 a 0),.d (gD 2 0 a 1)].all V.one) (fJ (gD 2 0 a 0) λ e=>fJ (gD 2 0 a 1) λ f=>c2 (.call 27 [.p 1 0,vl true [.s [110,97,109,101,115,112,97,99,101,32],.s e,.s [32],.s f,.s [10]]] [.cells [c,vl b l] bF,aC (fI ib sb db il sl dl)]) 2 bF 3 [] λ g h j=>dI g λ k=>aO (k.length==0) (aR (Vt n (i64.wrap (m+1)) ab al [.cells h bF,aC j])))) (aR (VR (dl.length:Int) 0 db dl [.cells [c,vl b l] bF,aC (fI ib sb db il sl dl)]))):=aF
theorem ZP(ab:Bool)(al:List D)(n m:Int)(c:V)(b:Bool)(l:List D)(ib:Bool)(il:List D)(sb:Bool)(sl:List D)(db:Bool)(dl:List D):EQ bT (VR n m ab al [.cells [c,vl b l] bF,aC (fI ib sb db il sl dl)]) (aV (decide (m<n)) (eL al m 12 λ a=>aO ([.d (gD 12 0 a 0),.d (gD 12 0 a 1),.d (gD 12 0 a 2),.d (gD 12 0 a 3),.d (gD 12 0 a 4),.d (gD 12 0 a 5),.d (gD 12 0 a 6),.d (gD 12 0 a 7),.d (gD 12 0 a 8),.d (gD 12 0 a 9),.d (gD 12 0 a 10),.d (gD 12 0 a 11)].all V.one) (c2 (.call 29 [.p 1 0,.d (.g [gD 12 0 a 0,gD 12 0 a 1,gD 12 0 a 2,gD 12 0 a 3,gD 12 0 a 4,gD 12 0 a 5,gD 12 0 a 6,gD 12 0 a 7,gD 12 0 a 8,gD 12 0 a 9,gD 12 0 a 10,gD 12 0 a 11])] [.cells [c,vl b l] bF,aC (fI ib sb db il sl dl)]) 2 bF 3 [] λ e f h=>dI e λ j=>aO (j.length==0) (aR (VR n (i64.wrap (m+1)) ab al [.cells f bF,aC h])))) (c2 (.call 30 [.p 1 0] [.cells [c,vl b l] bF,aC (fI ib sb db il sl dl)]) 2 bF 3 [] λ k o q=>aS k λ r => .ret (vs r,[]))):=aF
theorem Ma(b0:Bool)(l1:List D)(n2 n3:Int)(l4 l5:List V):EQ bT (KG n2 n3 b0 l1 [.cells l4 bF,aC l5]) (aV (decide (n3<n2)) (eC l1 n3 1 0 λ a=>fJ a λ c=>c2 (.call 56 [.p 1 0,vs c] [.cells l4 bF,aC l5]) l4.length bF l5.length [] λ e f g=>dI e λ h=>aO (h.length==2) (bG (cG h 0) λ j=>cf .i64 j λ k=>aO (decide (v8 (.t [vi k,h.getD 1 (vb false)])<=2)) (aR (KG n2 (i64.wrap (n3+1)) b0 l1 [.cells f bF,aC g])))) (.ret (.t [],[.cells l4 bF,aC l5]))):=aF
theorem Tl(l0 l1:List V):EQ bT (LY [.cells l0 bF,aC l1]) (c2 (.call 27 [.p 1 0,vl true [.s [44,10]]] [.cells l0 bF,aC l1]) l0.length bF l1.length [] λ a b c=>dI a λ e=>aO (e.length==0) (.ret (.t [],[.cells b bF,aC c]))):=aF
theorem GM(l0:aE)(b1:Bool)(l2:aE)(b3:Bool)(l4:List D)(b5:Bool)(l6:List D)(l7 l8:List V):EQ bT (Lz [aC (zl l0 l2 b1 b3 b5 l4 l6),.cells l7 bF,aC l8]) (cV (.call 124 [vl b3 l4] []) λ a=>aS a λ c=>c2 (.call 27 [.p 1 0,vl true [.s l2,.s [32],.s l0,.s [40],.s c,.s [41]]] [.cells l7 bF,aC l8]) l7.length bF l8.length [] λ e f g=>dI e λ h=>aO (h.length==0) (aV (decide ((l6.length:Int)>0)) (cV (.call 124 [vl b5 l6] []) λ i=>aS i λ j=>c2 (.call 27 [.p 1 0,vl true [.s [32,116,104,114,111,119,115,32,40],.s j,.s [41]]] [.cells f bF,aC g]) f.length bF g.length [] λ k m n=>dI k λ o=>aO (o.length==0) (aR (LZ [.cells m bF,aC n]))) (aR (LZ [.cells f bF,aC g])))):=aF
theorem vS(b0:Bool)(l1:List D)(n2 n3:Int)(l4 l5:List V):EQ bT (VL n2 n3 b0 l1 [.cells l4 bF,aC l5]) (aV (decide (n3<n2)) (eL l1 n3 3 λ a=>aO ([.d (gD 3 0 a 0),.d (gD 3 0 a 1),.d (gD 3 0 a 2)].all V.one) (c2 (.call 58 [.p 1 0,.d (.g [gD 3 0 a 0,gD 3 0 a 1,gD 3 0 a 2])] [.cells l4 bF,aC l5]) l4.length bF l5.length [] λ b c e=>dI b λ f=>aO (f.length==0) (aR (VL n2 (i64.wrap (n3+1)) b0 l1 [.cells c bF,aC e])))) (c2 (.call 27 [.p 1 0,vl true [.s [125,10]]] [.cells l4 bF,aC l5]) l4.length bF l5.length [] λ h j k=>dI h λ m=>aO (m.length==0) (.ret (.t [],[.cells j bF,aC k])))):=aF
theorem sa(n0:Int)(b1:Bool)(n2:Int)(l3 l4:aE)(n5 n6 n7:Int)(l8:aE)(b9:Bool)(l10:List D)(b11:Bool)(l12:List D)(b13:Bool)(l14:List D)(l15:aE)(b16:Bool)(l17:List D)(l18 l19:List V):EQ bT (N6 n0 b1 [aC (dp l3 l4 l8 l15 n2 n5 n6 n7 b9 b11 b13 b16 l10 l12 l14 l17),.cells l18 bF,aC l19]) (aV b1 (eC [.s [115,116,114,117,99,116,32],.s [117,110,105,111,110,32],.s [101,120,99,101,112,116,105,111,110,32]] (i64.wrap (n2-4)) 1 0 λ a=>fJ a λ c=>c2 (.call 27 [.p 1 0,vl true [.s c,.s l3,.s [32,123,10]]] [.cells l18 bF,aC l19]) l18.length bF l19.length [] λ e f g=>dI e λ h=>aO (h.length==0) (aR (VM (l12.length:Int) 0 b11 l12 [.cells f bF,aC g]))) (aV (n0==7) (c2 (.call 27 [.p 1 0,vl true [.s [115,101,114,118,105,99,101,32],.s l3]] [.cells l18 bF,aC l19]) l18.length bF l19.length [] λ j k m=>dI j λ n=>aO (n.length==0) (aV (!l15==[]) (c2 (.call 27 [.p 1 0,vl true [.s [32,101,120,116,101,110,100,115,32],.s l15]] [.cells k bF,aC m]) k.length bF m.length [] λ o q r=>dI o λ zu=>aO (zu.length==0) (aR (Lc [aC (dp l3 l4 l8 l15 n2 n5 n6 n7 b9 b11 b13 b16 l10 l12 l14 l17),.cells q bF,aC r]))) (aR (Lc [aC (dp l3 l4 l8 l15 n2 n5 n6 n7 b9 b11 b13 b16 l10 l12 l14 l17),.cells k bF,aC m])))) (.ret (.t [],[.cells l18 bF,aC l19])))):=aF
theorem To(l0 l1:List V):EQ bT (LZ [.cells l0 bF,aC l1]) (c2 (.call 27 [.p 1 0,vl true [.s [44,10]]] [.cells l0 bF,aC l1]) l0.length bF l1.length [] λ a b c=>dI a λ e=>aO (e.length==0) (.ret (.t [],[.cells b bF,aC c]))):=aF
theorem vT(b0:Bool)(l1:List D)(n2 n3:Int)(l4 l5:List V):EQ bT (VM n2 n3 b0 l1 [.cells l4 bF,aC l5]) (aV (decide (n3<n2)) (eL l1 n3 11 λ a=>aO ([.d (gD 11 0 a 0),.d (gD 11 0 a 1),.d (gD 11 0 a 2),.d (gD 11 0 a 3),.d (gD 11 0 a 4),.d (gD 11 0 a 5),.d (gD 11 0 a 6),.d (gD 11 0 a 7),.d (gD 11 0 a 8),.d (gD 11 0 a 9),.d (gD 11 0 a 10)].all V.one) (cV (.call 59 [.d (.g [gD 11 0 a 0,gD 11 0 a 1,gD 11 0 a 2,gD 11 0 a 3,gD 11 0 a 4,gD 11 0 a 5,gD 11 0 a 6,gD 11 0 a 7,gD 11 0 a 8,gD 11 0 a 9,gD 11 0 a 10])] []) λ b=>aS b λ c=>c2 (.call 27 [.p 1 0,vl true [.s [32,32],.s c,.s [44,10]]] [.cells l4 bF,aC l5]) l4.length bF l5.length [] λ e f h=>dI e λ j=>aO (j.length==0) (aR (VM n2 (i64.wrap (n3+1)) b0 l1 [.cells f bF,aC h])))) (c2 (.call 27 [.p 1 0,vl true [.s [125,10]]] [.cells l4 bF,aC l5]) l4.length bF l5.length [] λ k m n=>dI k λ o=>aO (o.length==0) (.ret (.t [],[.cells m bF,aC n])))):=aF
theorem GG(n0:Int)(l1 l2:aE)(n3 n4 n5:Int)(l6:aE)(b7:Bool)(l8:List D)(b9:Bool)(l10:List D)(b11:Bool)(l12:List D)(l13:aE)(b14:Bool)(l15:List D)(l16 l17:List V):EQ bT (Lc [aC (dp l1 l2 l6 l13 n0 n3 n4 n5 b7 b9 b11 b14 l8 l10 l12 l15),.cells l16 bF,aC l17]) (c2 (.call 27 [.p 1 0,vl true [.s [32,123,10]]] [.cells l16 bF,aC l17]) l16.length bF l17.length [] λ a b c=>dI a λ e=>aO (e.length==0) (aR (VE (l15.length:Int) 0 b14 l15 [.cells b bF,aC c]))):=aF
theorem tV(b0:Bool)(l1:List D)(n2 n3:Int)(l4 l5:List V):EQ bT (VE n2 n3 b0 l1 [.cells l4 bF,aC l5]) (aV (decide (n3<n2)) (eL l1 n3 5 λ a=>aO ([.d (gD 5 0 a 0),.d (gD 5 0 a 1),.d (gD 5 0 a 2),.d (gD 5 0 a 3),.d (gD 5 0 a 4)].all V.one) (c2 (.call 60 [.p 1 0,.d (.g [gD 5 0 a 0,gD 5 0 a 1,gD 5 0 a 2,gD 5 0 a 3,gD 5 0 a 4])] [.cells l4 bF,aC l5]) l4.length bF l5.length [] λ b c e=>dI b λ f=>aO (f.length==0) (aR (VE n2 (i64.wrap (n3+1)) b0 l1 [.cells c bF,aC e])))) (c2 (.call 27 [.p 1 0,vl true [.s [125,10]]] [.cells l4 bF,aC l5]) l4.length bF l5.length [] λ h j k=>dI h λ m=>aO (m.length==0) (.ret (.t [],[.cells j bF,aC k])))):=aF
def CW(c:V):Prop:=c=V.d D.np\/c=V.p 1 0
abbrev mB:Fl:=bF
abbrev TD(c:V)(b:Bool)(t:aE):List V:=[c,vl b (ofBytes t)]
def Jf(d:List V)(T:List V->Task)(t u:aE):Prop:=∀c b,CW c->∃c' b',CW c'/\RY (T (TD c b t))=some (.t [],[Ob.cells (TD c' b' (t++u)) mB,aC d])
theorem jS{f:Task->Option Out}{t:Task}{cs ds:List V}{m n:Nat}{K:List V->List V->Tr}(h:f t=some (.t [],[.cells cs mB,aC ds]))(hm:cs.length=m:=by rfl)(hn:ds.length=n:=by rfl):
  aD f (.call t λ o=>eE o.snd λ x l2=>dA x λ c g=>aO (c.length==m) (aO (g==mB) (eE l2 λ x5 l6=>dA x5 λ c7 g8=>aO (c7.length==n) (aO (g8==[]) (iY l6 (dI o.fst λ v=>aO (v.length==0) (K c c7)))))))=aD f (K cs ds):=by
 rw[cr h];show aD f (aO (cs.length==m) (aO (mB==mB) (aO (ds.length==n) (aO true (aO true (K cs ds))))))=_;rw[hm,abq,aQ,show (mB==mB)=true from rfl,aQ,hn,abq,aQ,aQ,aQ]
theorem Zt{f:Task->Option Out}{t:Task}{cs ds:List V}{m n:Nat}{q:Int}{K:List V->List V->Tr}(h:f t=some (.t [.d (.i .i64 q),.nifc],[.cells cs mB,aC ds]))(hm:cs.length=m:=by rfl)(hn:ds.length=n:=by rfl):
  aD f (.call t λ o=>eE o.snd λ x l2=>dA x λ c g=>aO (c.length==m) (aO (g==mB) (eE l2 λ x5 l6=>dA x5 λ c7 g8=>aO (c7.length==n) (aO (g8==[]) (iY l6 (dI o.fst λ v=>aO (v.length==2) (bG (cG v 0) λ (d:D)=>cf i64 d λ (y:Int)=>aO (decide (v8 (V.t [vi y,v.getD 1 (vb false)])<=2)) (K c c7))))))))
   = aD f (K cs ds):=by
 rw[cr h];show aD f (aO (cs.length==m) (aO (mB==mB) (aO (ds.length==n) (aO true (aO true (cf i64 (.i .i64 q) λ (y:Int)=>aO (decide (v8 (V.t [vi y,V.nifc])<=2)) (K cs ds)))))))=_;rw[hm,abq,aQ,show (mB==mB)=true from rfl,aQ,hn,abq,aQ,aQ,aQ,cT];exact aQ
theorem YK{f:Task->Option Out}{v:V}{b:Bool}{l:List D}{K:Bool->List D->Tr}(h:v = .d (.l b l)):aD f (bG v λ d=>gX d K)=aD f (K b l):=by subst h;rfl
theorem ya(a b:aE):ofBytes (a++b)=ofBytes a++ofBytes b:=by simp[ofBytes]
theorem Jy(s:aE):bA 1 (ofBytes s)=true:=by cases s<;>rfl
theorem XR(s:aE):dV (ofBytes s)=true:=by simp[dV,ofBytes,D.cells,V.one]
theorem P8(s:aE):(ofBytes s).length=s.length:=by simp[ofBytes]
theorem YP(d:List V)(c x:V)(hc:CW c):RY (.call 122 [V.p 1 0] [Ob.cells [c,x] mB,aC d])=some (.t [],[Ob.cells [V.p 1 0,x] mB,aC d]):=by rw[ji (g:=wa) rfl];rcases hc with rfl|rfl<;>rfl
theorem VW(d:List V)(s t:aE)(h:t.length+s.length<=1000000000)(c:V)(b:Bool)(hc:CW c):
  RY (.call 56 [V.p 1 0,vs s] [Ob.cells (TD c b t) mB,aC d])=some (.t [.d (.i .i64 (s.length:Int)),.nifc],[Ob.cells (TD (V.p 1 0) (b&&(ofBytes s).isEmpty) (t++s)) mB,aC d]):=by
 rw[RY,y56];refine(jS (YP d c _ hc)).trans ?_;refine(bz rfl).trans ?_;refine(YK (b:=b) (l:=ofBytes t) rfl).trans ?_;rw[Jy,aQ,Jy,aQ,XR,Bool.or_true,aQ,aN (by rw[P8,P8];omega)];refine aQ.trans ?_;rw[aG,<-ya];rfl
theorem Fx(d:List V)(l:List aE)(fb:Bool)(hl:l.length<=1000):∀(r p:List aE) (t:aE),p++r=l->t.length+r.flatten.length<=1000000000->
  Jf d (λ cs=>KG (l.length:Int) (p.length:Int) fb (l.map D.s) [Ob.cells cs mB,aC d]) t r.flatten
 | [],p,t,e,h=>λ c b hc=>by
  refine⟨c,b,hc,?_⟩;rw[abo]at e;subst e;rw[RY,Ma,bB];simp only[List.flatten_nil,abo,aG]
 |s::r,p,t,e,h=>λ c b hc=>by
  have hlen:l.length=p.length+(r.length+1):=by rw[<-e];simp
  have w1:=ca p.length;have g:(l.map D.s)[p.length]?=some (.s s):=by rw[<-e];simp
  rw[List.flatten_cons,aaS]at h;obtain⟨c',b',hc',h'⟩:=Fx d l fb hl r (p++[s]) (t++s) (by rw[<-e];simp) (by rw[aaS];omega) (V.p 1 0) (b&&(ofBytes s).isEmpty) (.inr rfl);refine⟨c',b',hc',?_⟩;rw[show (p++[s]).length=p.length+1 by simp]at h';rw[RY,Ma,bC,qi g];refine(Zt (VW d s t (by omega) c b hc)).trans ?_;rw[w1,List.flatten_cons,<-abg];exact aM h'
theorem iV(d:List V){ls:List D}(l:List aE)(hl:ls=l.map D.s)(hn:l.length<=1000)(t:aE){u:aE}(hu:l.flatten=u)(h:t.length+u.length<=1000000000):
  Jf d (λ cs=>Task.call 27 [V.p 1 0,vl true ls] [Ob.cells cs mB,aC d]) t u:=λ c b hc=>by
 subst hl;subst hu;obtain⟨c',b',hc',h'⟩:=Fx d l true hn l [] t rfl h c b hc;refine⟨c',b',hc',?_⟩;rw[RY,y27,List.length_map];exact aM h'
theorem Bh(d:List V)(t:aE)(h:t.length+2<=1000000000):Jf d (λ cs=>LY [Ob.cells cs mB,aC d]) t [44,10]:=λ c b hc=>by
 obtain⟨c',b',hc',h'⟩:=iV d [[44,10]] rfl (by simp) t rfl h c b hc;refine⟨c',b',hc',?_⟩;rw[RY,Tl];refine(jS h').trans ?_;rfl
theorem Nr(d:List V)(x:D)(hx:WM x)(t:aE)(h:t.length+(te x).length<=900000000):Jf d (λ cs=>Task.call 58 [V.p 1 0,V.d x] [Ob.cells cs mB,aC d]) t (te x):=λ c b hc=>by
 obtain⟨nm,hh,n,rfl,h1,h2⟩:=hx;simp only[te,aaS,aaT,abp]at h;obtain⟨c1,b1,hc1,e1⟩:=iV d (ls:=[D.s [32,32],D.s nm]) [[32,32],nm] rfl (by simp) t (u:=[32,32]++nm) (by simp) (by simp;omega) c b hc
 cases hh with
 |true=>
  obtain⟨c2,b2,hc2,e2⟩:=iV d (ls:=[D.s [32,61,32],D.s (cU n)]) [[32,61,32],cU n] rfl (by simp) (t++([32,32]++nm)) (u:=[32,61,32]++cU n) (by simp) (by simp at h⊢;omega) c1 b1 hc1;obtain⟨c3,b3,hc3,e3⟩:=Bh d (t++([32,32]++nm)++([32,61,32]++cU n)) (by simp at h⊢;omega) c2 b2 hc2;refine⟨c3,b3,hc3,?_⟩;rw[RY,y58];refine(jS e1).trans ?_;rw[bQ,gG (Xn n h2)];refine(jS e2).trans ?_;refine(aM e3).trans ?_;simp[te,abg]
 |false=>
  obtain⟨c3,b3,hc3,e3⟩:=Bh d (t++([32,32]++nm)) (by simp at h⊢;omega) c1 b1 hc1;refine⟨c3,b3,hc3,?_⟩;rw[RY,y58];refine(jS e1).trans ?_;rw[bH];refine(aM e3).trans ?_;simp[te,abg]
abbrev mO(nm:aE)(ow:Bool)(ret:aE)(ab:Bool)(al:List D)(tb:Bool)(tl:List D):Ob:=Ob.cells (zl nm ret ow ab tb al tl) []
theorem Bj(d:List V)(t:aE)(h:t.length+2<=1000000000):Jf d (λ cs=>LZ [Ob.cells cs mB,aC d]) t [44,10]:=λ c b hc=>by
 obtain⟨c',b',hc',h'⟩:=iV d [[44,10]] rfl (by simp) t rfl h c b hc;refine⟨c',b',hc',?_⟩;rw[RY,To];refine(jS h').trans ?_;rfl
theorem Bi(d:List V)(nm:aE)(ow:Bool)(ret:aE)(ab:Bool)(al:List D)(tb:Bool)(tl:List D)(h3:al.length<=100)(h4:tl.length<=100)(h5:∀y∈al,WF y)(h6:∀y∈tl,WF y)
  (ha:(fh al).length<=900000000) (ht:(fh tl).length<=900000000) (t:aE) (h:t.length+(ret++[32]++nm++[40]++fh al++[41]++zM tl++[44,10]).length<=900000000):
  Jf d (λ cs=>Lz [mO nm ow ret ab al tb tl,Ob.cells cs mB,aC d]) t (ret++[32]++nm++[40]++fh al++[41]++zM tl++[44,10]):=λ c b hc=>by
 have k1:=Wi ab al h3 h5 ha;have k2:=Wi tb tl h4 h6 ht;simp only[aaS,aaT,abp]at h;obtain⟨c1,b1,hc1,e1⟩:=iV d (ls:=[D.s ret,D.s [32],D.s nm,D.s [40],D.s (fh al),D.s [41]]) [ret,[32],nm,[40],fh al,[41]] rfl (by simp) t (u:=(ret++[32]++nm++[40]++fh al++[41])) (by simp) (by simp;omega) c b hc;by_cases h0:tl=[]
 ·subst h0;obtain⟨c3,b3,hc3,e3⟩:=Bj d (t++(ret++[32]++nm++[40]++fh al++[41])) (by simp;omega) c1 b1 hc1;refine⟨c3,b3,hc3,?_⟩;rw[RY,GM,gG k1];refine(jS e1).trans ?_;rw[bB (by simp)];refine(aM e3).trans ?_;simp[zM,abg]
 ·have hp:0<tl.length:=abR.2 h0;rw[zM,aaN h0,aaS,aaS]at h;obtain⟨c2,b2,hc2,e2⟩:=iV d (ls:=[D.s [32,116,104,114,111,119,115,32,40],D.s (fh tl),D.s [41]]) [[32,116,104,114,111,119,115,32,40],fh tl,[41]] rfl (by simp) (t++(ret++[32]++nm++[40]++fh al++[41])) (u:=([32,116,104,114,111,119,115,32,40]++fh tl++[41])) (by simp) (by simp at h⊢;omega) c1 b1 hc1;obtain⟨c3,b3,hc3,e3⟩:=Bj d (t++(ret++[32]++nm++[40]++fh al++[41])++([32,116,104,114,111,119,115,32,40]++fh tl++[41])) (by simp at h⊢;omega) c2 b2 hc2;refine⟨c3,b3,hc3,?_⟩;rw[RY,GM,gG k1];refine(jS e1).trans ?_;rw[bC,gG k2];refine(jS e2).trans ?_;refine(aM e3).trans ?_;simp[zM,aaN h0,abg]
theorem Ns(d:List V)(x:D)(hx:zP x)(t:aE)(h:t.length+(iU x).length<=900000000):Jf d (λ cs=>Task.call 60 [V.p 1 0,V.d x] [Ob.cells cs mB,aC d]) t (iU x):=λ c b hc=>by
 obtain⟨nm,ow,ret,ab,al,tb,tl,rfl,h1,h2,h3,h4,h5,h6⟩:=hx;rw[J6]at h⊢;have ha:(fh al).length<=900000000:=by simp only[aaS]at h;omega
 have hl:([32,32]++XT ow++ret++[32]++nm++[40]++fh al++[41]++zM tl++[44,10]).length<=900000000:=by omega
 have ht:=Rx hl;obtain⟨c1,b1,hc1,e1⟩:=iV d (ls:=[D.s [32,32]]) [[32,32]] rfl (by simp) t (u:=[32,32]) rfl (by simp at h⊢;omega) c b hc
 cases ow with
 |true=>
  obtain⟨c2,b2,hc2,e2⟩:=iV d (ls:=[D.s [111,110,101,119,97,121,32]]) [[111,110,101,119,97,121,32]] rfl (by simp) (t++[32,32]) (u:=[111,110,101,119,97,121,32]) rfl (by simp[XT]at h⊢;omega) c1 b1 hc1;obtain⟨c3,b3,hc3,e3⟩:=Bi d nm true ret ab al tb tl h3 h4 h5 h6 ha ht (t++[32,32]++[111,110,101,119,97,121,32]) (by simp[XT]at h⊢;omega) c2 b2 hc2;refine⟨c3,b3,hc3,?_⟩;rw[RY,y60];refine(jS e1).trans ?_;rw[bQ];refine(jS e2).trans ?_;refine(aM e3).trans ?_;simp[XT,abg]
 |false=>
  obtain⟨c3,b3,hc3,e3⟩:=Bi d nm false ret ab al tb tl h3 h4 h5 h6 ha ht (t++[32,32]) (by simp[XT]at h⊢;omega) c1 b1 hc1;refine⟨c3,b3,hc3,?_⟩;rw[RY,y60];refine(jS e1).trans ?_;rw[bH];refine(aM e3).trans ?_;simp[XT,abg]
theorem Tg{x:D}(h:WM x):x.width=3:=by obtain⟨_,_,_,rfl,_⟩:=h;rfl
theorem Ox{x:D}(h:zP x):x.width=5:=by obtain⟨_,_,_,_,_,_,_,rfl,_⟩:=h;rfl
theorem Tf{x:D}(h:WD x):x.width=12:=by obtain⟨_,_,_,_,_,_,_,_,_,_,_,_,_,_,_,_,rfl,_⟩:=h;rfl
theorem Be(d:List V)(l:List D)(lb:Bool)(hl:l.length<=100)(hm:∀y∈l,WM y):∀(r p:List D) (t:aE),p++r=l->t.length+(r.map te).flatten.length+2<=900000000->
  Jf d (λ cs=>VL (l.length:Int) (p.length:Int) lb l [Ob.cells cs mB,aC d]) t ((r.map te).flatten++[125,10])
 | [],p,t,e,h=>λ c b hc=>by
  rw[abo]at e;subst e;obtain⟨c1,b1,hc1,e1⟩:=iV d (ls:=[D.s [125,10]]) [[125,10]] rfl (by simp) t (u:=[125,10]) rfl (by simp at h⊢;omega) c b hc;refine⟨c1,b1,hc1,?_⟩;rw[RY,vS,bB];refine(jS e1).trans ?_;rfl
 |x::r,p,t,e,h=>λ c b hc=>by
  have hlen:l.length=p.length+(r.length+1):=by rw[<-e];simp
  have w1:=ca p.length;have hx:=hm x (by rw[<-e];simp);have g:l[p.length]?=some x:=by rw[<-e];simp
  simp only[List.map_cons,List.flatten_cons,aaS]at h;obtain⟨c1,b1,hc1,e1⟩:=Nr d x hx t (by omega) c b hc;obtain⟨c2,b2,hc2,e2⟩:=Be d l lb hl hm r (p++[x]) (t++te x) (by rw[<-e];simp) (by simp only[aaS];omega) c1 b1 hc1;rw[show (p++[x]).length=p.length+1 by simp]at e2;refine⟨c2,b2,hc2,?_⟩;rw[RY,vS,bC];refine(j0 g (Tg hx)).trans ?_;obtain⟨nm,hh,n,rfl,_⟩:=hx;refine aQ.trans ?_;refine(jS e1).trans ?_;rw[w1];refine(aM e2).trans ?_;simp only[List.map_cons,List.flatten_cons,abg]
theorem Bf(d:List V)(l:List D)(lb:Bool)(hl:l.length<=100)(hm:∀y∈l,WF y):∀(r p:List D) (t:aE),p++r=l->t.length+(r.map rT).flatten.length+2<=900000000->
  Jf d (λ cs=>VM (l.length:Int) (p.length:Int) lb l [Ob.cells cs mB,aC d]) t ((r.map rT).flatten++[125,10])
 | [],p,t,e,h=>λ c b hc=>by
  rw[abo]at e;subst e;obtain⟨c1,b1,hc1,e1⟩:=iV d (ls:=[D.s [125,10]]) [[125,10]] rfl (by simp) t (u:=[125,10]) rfl (by simp at h⊢;omega) c b hc;refine⟨c1,b1,hc1,?_⟩;rw[RY,vT,bB];refine(jS e1).trans ?_;rfl
 |x::r,p,t,e,h=>λ c b hc=>by
  have hlen:l.length=p.length+(r.length+1):=by rw[<-e];simp
  have w1:=ca p.length;have hx:=hm x (by rw[<-e];simp);have g:l[p.length]?=some x:=by rw[<-e];simp
  simp only[List.map_cons,List.flatten_cons,aaS]at h;have hxl:(rT x).length=(sd x).length+4:=by simp[rT]
  have hc0:=Fm x hx (by omega);obtain⟨c1,b1,hc1,e1⟩:=iV d (ls:=[D.s [32,32],D.s (sd x),D.s [44,10]]) [[32,32],sd x,[44,10]] rfl (by simp) t (u:=rT x) (by simp[rT]) (by omega) c b hc;obtain⟨c2,b2,hc2,e2⟩:=Bf d l lb hl hm r (p++[x]) (t++rT x) (by rw[<-e];simp) (by simp only[aaS];omega) c1 b1 hc1;rw[show (p++[x]).length=p.length+1 by simp]at e2;refine⟨c2,b2,hc2,?_⟩;rw[RY,vT,bC];refine(j0 g (tS hx)).trans ?_;obtain⟨_,_,_,_,_,_,_,_,_,_,_,_,rfl,_⟩:=hx;refine aQ.trans ?_;refine(gG hc0).trans ?_;refine(jS e1).trans ?_;rw[w1];refine(aM e2).trans ?_;simp only[List.map_cons,List.flatten_cons,abg]
theorem yd(d:List V)(l:List D)(lb:Bool)(hl:l.length<=100)(hm:∀y∈l,zP y):∀(r p:List D) (t:aE),p++r=l->t.length+(r.map iU).flatten.length+2<=900000000->
  Jf d (λ cs=>VE (l.length:Int) (p.length:Int) lb l [Ob.cells cs mB,aC d]) t ((r.map iU).flatten++[125,10])
 | [],p,t,e,h=>λ c b hc=>by
  rw[abo]at e;subst e;obtain⟨c1,b1,hc1,e1⟩:=iV d (ls:=[D.s [125,10]]) [[125,10]] rfl (by simp) t (u:=[125,10]) rfl (by simp at h⊢;omega) c b hc;refine⟨c1,b1,hc1,?_⟩;rw[RY,tV,bB];refine(jS e1).trans ?_;rfl
 |x::r,p,t,e,h=>λ c b hc=>by
  have hlen:l.length=p.length+(r.length+1):=by rw[<-e];simp
  have w1:=ca p.length;have hx:=hm x (by rw[<-e];simp);have g:l[p.length]?=some x:=by rw[<-e];simp
  simp only[List.map_cons,List.flatten_cons,aaS]at h;obtain⟨c1,b1,hc1,e1⟩:=Ns d x hx t (by omega) c b hc;obtain⟨c2,b2,hc2,e2⟩:=yd d l lb hl hm r (p++[x]) (t++iU x) (by rw[<-e];simp) (by simp only[aaS];omega) c1 b1 hc1;rw[show (p++[x]).length=p.length+1 by simp]at e2;refine⟨c2,b2,hc2,?_⟩;rw[RY,tV,bC];refine(j0 g (Ox hx)).trans ?_;obtain⟨_,_,_,_,_,_,_,rfl,_⟩:=hx;refine aQ.trans ?_;refine(jS e1).trans ?_;rw[w1];refine(aM e2).trans ?_;simp only[List.map_cons,List.flatten_cons,abg]
theorem Bg(d:List V)(kd:Int)(nm ty:aE)(ck cn cu:Int)(cs:aE)(cb:Bool)(cl:List D)(fb:Bool)(fl:List D)(mb:Bool)(ml:List D)(ex:aE)(tb:Bool)(tl:List D)(hl:tl.length<=100)(hm:∀y∈tl,zP y)(t:aE)
  (h:t.length+(tl.map iU).flatten.length+5<=900000000):
  Jf d (λ c=>Lc [dO kd nm ty ck cn cu cs cb cl fb fl mb ml ex tb tl,Ob.cells c mB,aC d]) t ([32,123,10]++(tl.map iU).flatten++[125,10]):=λ c b hc=>by
 obtain⟨c1,b1,hc1,e1⟩:=iV d (ls:=[D.s [32,123,10]]) [[32,123,10]] rfl (by simp) t (u:=[32,123,10]) rfl (by simp;omega) c b hc;obtain⟨c2,b2,hc2,e2⟩:=yd d tl tb hl hm tl [] (t++[32,123,10]) rfl (by simp at h⊢;omega) c1 b1 hc1;refine⟨c2,b2,hc2,?_⟩;rw[RY,GG];refine(jS e1).trans ?_;refine(aM e2).trans ?_;simp only[abg]
theorem Ig(d:List V)(kd:Int)(nm ty:aE)(ck cn cu:Int)(cs:aE)(cb:Bool)(cl:List D)(fb:Bool)(fl:List D)(mb:Bool)(ml:List D)(ex:aE)(tb:Bool)(tl:List D)(hl:fl.length<=100)(hm:∀y∈fl,WF y)(hk:4<=kd/\kd<=6)(n:Int)(t:aE)
  (hn:nm.length<=2000) (h:t.length+(CE kd++nm++[32,123,10]++(fl.map rT).flatten++[125,10]).length<=900000000):
  Jf d (λ c=>N6 n true [dO kd nm ty ck cn cu cs cb cl fb fl mb ml ex tb tl,Ob.cells c mB,aC d]) t (CE kd++nm++[32,123,10]++(fl.map rT).flatten++[125,10]):=λ c b hc=>by
 simp only[aaS]at h;obtain⟨k,hk4,rfl⟩:∃k:Nat,k<3/\kd=((k+4:Nat):Int):=⟨(kd-4).toNat,by omega,by omega⟩
 have w:i64.wrap (((k+4:Nat):Int)-4)=(k:Int):=bD;have g:([D.s [115,116,114,117,99,116,32],D.s [117,110,105,111,110,32],D.s [101,120,99,101,112,116,105,111,110,32]]:List D)[k]?=some (.s (CE ((k+4:Nat):Int))):=by
  rcases k with _|_|_|k
  all_goals first
   |rfl
   |omega
 obtain⟨c1,b1,hc1,e1⟩:=iV d (ls:=[D.s (CE ((k+4:Nat):Int)),D.s nm,D.s [32,123,10]]) [CE ((k+4:Nat):Int),nm,[32,123,10]] rfl (by simp) t (u:=CE ((k+4:Nat):Int)++nm++[32,123,10]) (by simp) (by simp only[aaS];omega) c b hc;obtain⟨c2,b2,hc2,e2⟩:=Bf d fl fb hl hm fl [] (t++(CE ((k+4:Nat):Int)++nm++[32,123,10])) rfl (by simp only[aaS,aaT,abp]at h⊢;omega) c1 b1 hc1;refine⟨c2,b2,hc2,?_⟩;rw[RY,sa,bQ,w,qi g];refine(jS e1).trans ?_;refine(aM e2).trans ?_;simp only[abg]
theorem Ih(d:List V)(nm ty:aE)(ck cn cu:Int)(cs:aE)(cb:Bool)(cl:List D)(fb:Bool)(fl:List D)(mb:Bool)(ml:List D)(ex:aE)(tb:Bool)(tl:List D)(hl:tl.length<=100)(hm:∀y∈tl,zP y)(t:aE)
  (hn:nm.length<=2000) (hex:ex.length<=2000) (h:t.length+([115,101,114,118,105,99,101,32]++nm++Yo ex++[32,123,10]++(tl.map iU).flatten++[125,10]).length<=900000000):
  Jf d (λ c=>N6 7 false [dO 7 nm ty ck cn cu cs cb cl fb fl mb ml ex tb tl,Ob.cells c mB,aC d]) t ([115,101,114,118,105,99,101,32]++nm++Yo ex++[32,123,10]++(tl.map iU).flatten++[125,10]):=λ c b hc=>by
 simp only[aaS,aaT,abp]at h;obtain⟨c1,b1,hc1,e1⟩:=iV d (ls:=[D.s [115,101,114,118,105,99,101,32],D.s nm]) [[115,101,114,118,105,99,101,32],nm] rfl (by simp) t (u:=[115,101,114,118,105,99,101,32]++nm) (by simp) (by simp;omega) c b hc;by_cases hx:ex=[]
 ·subst hx;obtain⟨c2,b2,hc2,e2⟩:=Bg d 7 nm ty ck cn cu cs cb cl fb fl mb ml [] tb tl hl hm (t++([115,101,114,118,105,99,101,32]++nm)) (by simp only[aaS,aaT,abp];omega) c1 b1 hc1;refine⟨c2,b2,hc2,?_⟩;rw[RY,sa,bH,bM rfl];refine(jS e1).trans ?_;rw[show (!([]:aE)==[])=false from rfl,bH];refine(aM e2).trans ?_;simp only[Yo,if_true,abg,abo,List.nil_append]
 ·have he:Yo ex=[32,101,120,116,101,110,100,115,32]++ex:=aaN hx;obtain⟨c3,b3,hc3,e3⟩:=iV d (ls:=[D.s [32,101,120,116,101,110,100,115,32],D.s ex]) [[32,101,120,116,101,110,100,115,32],ex] rfl (by simp) (t++([115,101,114,118,105,99,101,32]++nm)) (u:=Yo ex) (by simp[he]) (by simp only[aaS,aaT,abp];omega) c1 b1 hc1;obtain⟨c2,b2,hc2,e2⟩:=Bg d 7 nm ty ck cn cu cs cb cl fb fl mb ml ex tb tl hl hm (t++([115,101,114,118,105,99,101,32]++nm)++Yo ex) (by simp only[aaS,aaT,abp];omega) c3 b3 hc3;refine⟨c2,b2,hc2,?_⟩;rw[RY,sa,bH,bM rfl];refine(jS e1).trans ?_;rw[eH (by simpa using hx)];refine(jS e3).trans ?_;refine(aM e2).trans ?_;simp only[abg]
theorem XU(d:List V)(x:D)(hx:WD x)(t:aE)(h:t.length+(nr x).length<=900000000):Jf d (λ c=>Task.call 29 [V.p 1 0,V.d x] [Ob.cells c mB,aC d]) t (nr x):=λ c b hc=>by
 obtain⟨kd,nm,ty,ck,cn,cu,cs,cb,cl,fb,fl,mb,ml,ex,tb,tl,rfl,k1,k7,hnm,hty,hk3,hwc,hfl,hf,hml,hm,hex,htl,ht,n2,n4,n7⟩:=hx;simp only[nr]at h⊢;by_cases c1:kd=1
 ·rw[aaR c1]at h⊢;obtain⟨c1',b1,hc1,e1⟩:=iV d (ls:=[D.s [116,121,112,101,100,101,102,32],D.s ty,D.s [32],D.s nm,D.s [10]]) [[116,121,112,101,100,101,102,32],ty,[32],nm,[10]] rfl (by simp) t (u:=[116,121,112,101,100,101,102,32]++ty++[32]++nm++[10]) (by simp) (by simp only[aaS]at h⊢;omega) c b hc;refine⟨c1',b1,hc1,?_⟩;rw[RY,Ym,bM c1];refine(jS e1).trans ?_;rfl
 by_cases c3:kd=3
 ·rw[aaN c1,aaR c3]at h⊢;have hcl:(eB (cD ck cn cu cs cb cl)).length<=900000000:=by simp only[cD,aaS]at h⊢;omega
  have hcon:=yc qS _ hwc (hk3 c3) hcl
  obtain⟨c1',b1,hc1,e1⟩:=iV d (ls:=[D.s [99,111,110,115,116,32],D.s ty,D.s [32],D.s nm,D.s [32,61,32],D.s (eB (cD ck cn cu cs cb cl)),D.s [10]]) [[99,111,110,115,116,32],ty,[32],nm,[32,61,32],eB (cD ck cn cu cs cb cl),[10]] rfl (by simp) t
   (u:=[99,111,110,115,116,32]++ty++[32]++nm++[32,61,32]++eB (cD ck cn cu cs cb cl)++[10]) (by simp) (by simp only[cD,aaS]at h⊢;omega) c b hc
  refine⟨c1',b1,hc1,?_⟩;rw[RY,Ym,bp c1,bM c3];refine(gG hcon).trans ?_;refine(jS e1).trans ?_;rfl
 rw[aaN c1,aaN c3]at h⊢;by_cases c2:kd=2
 ·rw[aaR c2]at h⊢;simp only[aaS,aaT,abp]at h;obtain⟨c1',b1,hc1,e1⟩:=iV d (ls:=[D.s [101,110,117,109,32],D.s nm,D.s [32,123,10]]) [[101,110,117,109,32],nm,[32,123,10]] rfl (by simp) t (u:=[101,110,117,109,32]++nm++[32,123,10]) (by simp) (by simp only[aaS,aaT,abp];omega) c b hc;obtain⟨c2',b2,hc2,e2⟩:=Be d ml mb hml hm ml [] (t++([101,110,117,109,32]++nm++[32,123,10])) rfl (by simp only[aaS,aaT,abp];omega) c1' b1 hc1;refine⟨c2',b2,hc2,?_⟩;rw[RY,Ym,bp c1,bp c3,bM c2];refine(jS e1).trans ?_;refine(aM e2).trans ?_;simp only[abg]
 rw[aaN c2]at h⊢;by_cases c7:kd=7
 ·subst c7;rw[aaR rfl]at h⊢;obtain⟨c2',b2,hc2,e2⟩:=Ih d nm ty ck cn cu cs cb cl fb fl mb ml ex tb tl htl ht t hnm hex h c b hc;refine⟨c2',b2,hc2,?_⟩;rw[RY,Ym,bp c1,bp c3,bp c2,bp (by decide),bp (by decide)];exact aM e2
 ·rw[aaN c7]at h⊢;obtain⟨c2',b2,hc2,e2⟩:=Ig d kd nm ty ck cn cu cs cb cl fb fl mb ml ex tb tl hfl hf (by omega) kd t hnm h c b hc;refine⟨c2',b2,hc2,?_⟩;by_cases c4:kd=4
  ·subst c4;rw[RY,Ym,bp c1,bp c3,bp c2,bM rfl];exact aM e2
  ·by_cases c5:kd=5
   ·subst c5;rw[RY,Ym,bp c1,bp c3,bp c2,bp c4,bM rfl];exact aM e2
   ·have c6:kd=6:=by omega
    subst c6;rw[RY,Ym,bp c1,bp c3,bp c2,bp c4,bp c5];exact aM e2
section
variable (ib : Bool) (il : List D) (sb : Bool) (sl : List D) (db : Bool) (dl : List D)
abbrev Yq(ib:Bool)(il:List D)(sb:Bool)(sl:List D)(db:Bool)(dl:List D):List V:=(fI ib sb db il sl dl)
theorem zX:∀t:aE,o9 (ofBytes t)=some t
 | []=>rfl
 |a::t=>by
  have h:=a.toNat_lt;show (if (0:Int)<=(a.toNat:Int)/\(a.toNat:Int)<256 then(o9 (ofBytes t)).map (UInt8.ofNat ((a.toNat:Int)).toNat :: ·)else none)=_;rw[aaR ⟨by omega,by omega⟩,zX t,Option.map_some,abe,UInt8.ofNat_toNat]
theorem aaP(d:List V)(c:V)(b:Bool)(t:aE)(h0:t≠[])(h:t.length<=1000000000):RY (.call 30 [V.p 1 0] [Ob.cells (TD c b t) mB,aC d])=some (.d (.s t),[Ob.cells (TD c b t) mB,aC d]):=by
 rw[ji (g:=C8) rfl]
 show (match o9 (ofBytes t) with
  |some l=>if l≠[]/\l.length<=1000000000/\mB.contains (1,21000001)=true then some (V.d (.s l),[Ob.cells (TD c b t) mB,aC d])else none
  |none=>none)=_
 rw[zX];exact aaR ⟨h0,h,rfl⟩
theorem Zu{f:Task->Option Out}{t:Task}{cs ds:List V}{m n:Nat}{s:aE}{K:List V->List V->aE->Tr}(h:f t=some (.d (.s s),[.cells cs mB,aC ds]))(hm:cs.length=m:=by rfl)(hn:ds.length=n:=by rfl):
  aD f (.call t λ o=>eE o.snd λ x l2=>dA x λ c g=>aO (c.length==m) (aO (g==mB) (eE l2 λ x5 l6=>dA x5 λ c7 g8=>aO (c7.length==n) (aO (g8==[]) (iY l6 (bG o.fst λ d=>fJ d λ y=>K c c7 y))))))=aD f (K cs ds s):=by
 rw[cr h];show aD f (aO (cs.length==m) (aO (mB==mB) (aO (ds.length==n) (aO true (K cs ds s)))))=_;rw[hm,abq,aQ,show (mB==mB)=true from rfl,aQ,hn,abq,aQ,aQ]
theorem Fo(h:∀y∈dl,WD y)(hl:dl.length<=100):∀(r p:List D) (a:aE) (c:V) (b:Bool),CW c->p++r=dl->(a++(r.map nr).flatten).length<=900000000->a++(r.map nr).flatten≠[]->
  RY (VR (dl.length:Int) (p.length:Int) db dl [Ob.cells (TD c b a) mB,aC (Yq ib il sb sl db dl)])=some (.d (.s (a++(r.map nr).flatten)),[])
 | [],p,a,c,b,hc,e,ha,h0=>by
  rw[abo]at e;subst e;simp only[List.map_nil,List.flatten_nil,abo]at ha h0⊢;rw[RY,ZP,bB];refine(Zu (aaP _ c b a h0 (by omega))).trans ?_;rfl
 |x::r,p,a,c,b,hc,e,ha,h0=>by
  have hlen:dl.length=p.length+(r.length+1):=by rw[<-e];simp
  have w1:=ca p.length;have hx:=h x (by rw[<-e];simp);have g:dl[p.length]?=some x:=by rw[<-e];simp
  simp only[List.map_cons,List.flatten_cons,<-abg]at ha h0⊢;obtain⟨c1,b1,hc1,e1⟩:=XU (Yq ib il sb sl db dl) x hx a (by simp only[aaS]at ha;omega) c b hc;have ih:=Fo h hl r (p++[x]) (a++nr x) c1 b1 hc1 (by rw[<-e];simp) ha h0;rw[show (p++[x]).length=p.length+1 by simp]at ih;rw[RY,ZP,bC];refine(j0 g (Tf hx)).trans ?_;obtain⟨_,_,_,_,_,_,_,_,_,_,_,_,_,_,_,_,rfl,_⟩:=hx;refine aQ.trans ?_;refine(jS e1).trans ?_;rw[w1];exact aM ih
theorem J4(hd:∀y∈dl,WD y)(hdl:dl.length<=100)(h:∀y∈sl,WS y)(hl:sl.length<=100):∀(r p:List D) (a:aE) (c:V) (b:Bool),CW c->p++r=sl->(a++(r.map vH).flatten++(dl.map nr).flatten).length<=900000000->a++(r.map vH).flatten++(dl.map nr).flatten≠[]->
  RY (Vt (sl.length:Int) (p.length:Int) sb sl [Ob.cells (TD c b a) mB,aC (Yq ib il sb sl db dl)])=some (.d (.s (a++(r.map vH).flatten++(dl.map nr).flatten)),[])
 | [],p,a,c,b,hc,e,ha,h0=>by
  rw[abo]at e;subst e;simp only[List.map_nil,List.flatten_nil,abo]at ha h0⊢;rw[RY,ZO,bB];exact aM (Fo ib il sb p db dl hd hdl dl [] a c b hc rfl ha h0)
 |x::r,p,a,c,b,hc,e,ha,h0=>by
  have hlen:sl.length=p.length+(r.length+1):=by rw[<-e];simp
  have w1:=ca p.length;have hx:=h x (by rw[<-e];simp);have g:sl[p.length]?=some x:=by rw[<-e];simp
  simp only[List.map_cons,List.flatten_cons,<-abg]at ha h0⊢;obtain⟨s1,s2,rfl,h1,h2⟩:=hx;obtain⟨c1,b1,hc1,e1⟩:=iV (Yq ib il sb sl db dl) (ls:=[D.s [110,97,109,101,115,112,97,99,101,32],D.s s1,D.s [32],D.s s2,D.s [10]]) [[110,97,109,101,115,112,97,99,101,32],s1,[32],s2,[10]] rfl (by simp) a (u:=vH (C6 s1 s2)) (by simp[vH]) (by simp only[aaS]at ha;omega) c b hc;have ih:=J4 hd hdl h hl r (p++[C6 s1 s2]) (a++vH (C6 s1 s2)) c1 b1 hc1 (by rw[<-e];simp) ha h0;rw[show (p++[C6 s1 s2]).length=p.length+1 by simp]at ih;rw[RY,ZO,bC];refine(j0 g rfl).trans ?_;refine aQ.trans ?_;refine(jS e1).trans ?_;rw[w1];exact aM ih
theorem FD{s:aE}(h:s.contains 34=false):fi s=[34]++s++[34]:=by unfold fi;rw[aaN (by simp at h⊢;exact h)]
theorem J3(hd:∀y∈dl,WD y)(hdl:dl.length<=100)(hs:∀y∈sl,WS y)(hsl:sl.length<=100)(h:∀y∈il,WI y)(hl:il.length<=100):∀(r p:List D) (a:aE) (c:V) (b:Bool),CW c->p++r=il->(a++(r.map zm).flatten++(sl.map vH).flatten++(dl.map nr).flatten).length<=900000000->a++(r.map zm).flatten++(sl.map vH).flatten++(dl.map nr).flatten≠[]->
  RY (Vs (il.length:Int) (p.length:Int) ib il [Ob.cells (TD c b a) mB,aC (Yq ib il sb sl db dl)])=some (.d (.s (a++(r.map zm).flatten++(sl.map vH).flatten++(dl.map nr).flatten)),[])
 | [],p,a,c,b,hc,e,ha,h0=>by
  rw[abo]at e;subst e;simp only[List.map_nil,List.flatten_nil,abo]at ha h0⊢;rw[RY,ZN,bB];exact aM (J4 ib p sb sl db dl hd hdl hs hsl sl [] a c b hc rfl ha h0)
 |x::r,p,a,c,b,hc,e,ha,h0=>by
  have hlen:il.length=p.length+(r.length+1):=by rw[<-e];simp
  have w1:=ca p.length;have hx:=h x (by rw[<-e];simp);have g:il[p.length]?=some x:=by rw[<-e];simp
  simp only[List.map_cons,List.flatten_cons,<-abg]at ha h0⊢;obtain⟨s1,rfl,h1,h2⟩:=hx;have hq:=J7 s1 h1;rw[FD h2]at hq;obtain⟨c1,b1,hc1,e1⟩:=iV (Yq ib il sb sl db dl) (ls:=[D.s [105,110,99,108,117,100,101,32],D.s ([34]++s1++[34]),D.s [10]]) [[105,110,99,108,117,100,101,32],[34]++s1++[34],[10]] rfl (by simp) a (u:=zm (D.s s1)) (by simp[zm]) (by simp only[aaS]at ha;omega) c b hc;have ih:=J3 hd hdl hs hsl h hl r (p++[D.s s1]) (a++zm (D.s s1)) c1 b1 hc1 (by rw[<-e];simp) ha h0;rw[show (p++[D.s s1]).length=p.length+1 by simp]at ih;rw[RY,ZN,bC,qi g,gG hq];refine(jS e1).trans ?_;rw[w1];exact aM ih
end
theorem UJ(x:D)(hx:Tv x)(h0:mN x≠[])(hl:(mN x).length<=900000000):RY (.call 12 [V.d x] [])=some (.d (.s (mN x)),[]):=by obtain⟨ib,il,sb,sl,db,dl,rfl,h1,h2,h3,h4,h5,h6⟩:=hx;simp only[mN]at hl h0⊢;rw[RY,y12];exact aM (J3 ib il sb sl db dl h6 h3 h5 h2 h4 h1 il [] [] (V.d D.np) true (.inl rfl) rfl (by simpa using hl) (by simpa using h0))
end Go.Dn.Dec
namespace Go.Dn.Dec.Pa
open Go.IntKind (i64 u64 u8 u16 i32 u32)
open Go.Proofs
set_option maxRecDepth 100000
theorem WV:RQ (.call 9 [] [])=some (vb true,[]):=by rw[lp (Jw (by decide) (by decide) (by decide) (by decide))];refine Dh ?_;exact yx.2 ⟨200,by kernel_rfl⟩
theorem CS{s:aE}(h:(fG s).2.1=0):∃il sl dl:List D,(fG s).1=AG il.isEmpty il sl.isEmpty sl dl.isEmpty dl:=by
 unfold fG at h⊢;split at h
 ·rename_i e;exact absurd h e
 ·rename_i e;rw[aaN e];unfold ov at h⊢;split at h
  ·rename_i e2;exact absurd h e2
  ·rename_i e2;rw[aaN e2];exact⟨_,_,_,rfl⟩
theorem q12{x:D}(hx:Tv x)(hl:(mN x).length<=900000000){il sl dl:List D}(hf:x=AG il.isEmpty il sl.isEmpty sl dl.isEmpty dl):RQ (.call 12 [V.d x] [])=some (vs (mN x),[]):=by
 have e:kJ.ext 12=some CT:=by simp only[kJ,MB];rfl
 rw[lp e];by_cases h0:mN x=[]
 ·obtain⟨b1,b2,b3,h1⟩:=QI hx h0;rw[hf]at h1;injection h1 with h1
  injection h1 with a1 h1
  injection h1 with a2 h1
  injection h1 with a3 h1
  injection a1 with _ a1
  injection a2 with _ a2
  injection a3 with _ a3
  subst a1;subst a2;subst a3;rw[h0,hf];rfl
 ·have h2:=iL (UJ x hx h0 hl);unfold CT;split
  ·rename_i heq;injection heq with heq
   injection heq with heq
   subst heq;exact absurd rfl h0
  ·exact Dh h2
theorem sW(s:aE):∃(il sl dl:List D) (bi bs bd:Bool),(fG s).1 = .g [.l bi il,.l bs sl,.l bd dl]:=by
 unfold fG;split
 ·exact⟨_,_,_,_,_,_,rfl⟩
 ·unfold ov;split<;>exact⟨_,_,_,_,_,_,rfl⟩
theorem Rh{f:Task->Option Out}{t:Task}{gs:List D}{n m:Int}{e e' e2:V}{K:List D->Int->Int->Tr}(h:f t=some (.t [.d (.g gs),vi n,vi m],[]))(hg:gs.length=3):
  aD f (cV t λ v=>dI v λ l=>aO (l.length==3) (bG (l.getD 0 e) λ d=>j5 3 d λ g=>bG (l.getD 1 e') λ d'=>cf .i64 d' λ y=>bG (l.getD 2 e2) λ d2=>cf .i64 d2 λ z=>K g y z))=aD f (K gs n m):=by
 rw[cr h];show aD f (aO true (aO true (j5 3 (.g gs) λ g=>cf .i64 (.i .i64 n) λ y=>cf .i64 (.i .i64 m) λ z=>K g y z)))=_;rw[aQ,aQ,lH,aaR hg,bO,aaR rfl,bO,aaR rfl]
end Go.Dn.Dec.Pa
namespace Go.Dn.Dec
open Go.IntKind (i64 u64 u8 u16 i32 u32)
open Go.Proofs
theorem uq5(b:Bool)(l:List D)(c:Bool)(m:List D)(e:Bool)(n:List D):EQ kJ (.call 5 (fI b c e l m n) []) (cV (.call 9 [] []) λ a=>aB a λ f=>aV (!f) (.ret (vb false,[])) (aV (decide ((l.length:Int)>100)) (aR (SU b c e true l m n [])) (aR (SU b c e (decide ((m.length:Int)>3)) l m n [])))):=aF
theorem Kb(b0:Bool)(l1:List D)(b2:Bool)(l3:List D)(b4:Bool)(l5:List D)(b6:Bool):EQ kJ (SU b0 b2 b4 b6 l1 l3 l5 []) (aV b6 (.ret (vb true,[])) (cV (.call 17 (fI b0 b2 b4 l1 l3 l5) []) λ a=>aS a λ c=>cV (.call 16 [vs c] []) λ e=>dI e λ f=>aO (f.length==3) (bG (cG f 0) λ h=>j5 3 h λ i=>bG (cG f 1) λ j=>cf .i64 j λ k=>bG (cG f 2) λ m=>cf .i64 m λ n=>aO ([.d (aH i 0),.d (aH i 1),.d (aH i 2)].all V.one) (aV (k != 0) (.ret (vb true,[])) (cV (.call 12 [.d (.g [i.getD 0 (.b false),i.getD 1 (.b false),i.getD 2 (.b false)])] []) λ o=>aS o λ p=>cV (.call 16 [vs p] []) λ q=>dI q λ r=>aO (r.length==3) (bG (cG r 0) λ t=>j5 3 t λ v=>bG (cG r 1) λ w=>cf .i64 w λ x=>bG (cG r 2) λ y=>cf .i64 y λ z=>aO ([.d (aH v 0),.d (aH v 1),.d (aH v 2)].all V.one) (aV (decide ((p.length:Int)>2000)) (aV (x==4) (.ret (vb (z==0),[])) (.ret (vb false,[]))) (aV (x==0) (cV (.call 15 [.d (.g [i.getD 0 (.b false),i.getD 1 (.b false),i.getD 2 (.b false)]),.d (.g [v.getD 0 (.b false),v.getD 1 (.b false),v.getD 2 (.b false)])] []) λ a0=>aB a0 λ a1=>aV a1 (cV (.call 12 [.d (.g [v.getD 0 (.b false),v.getD 1 (.b false),v.getD 2 (.b false)])] []) λ a2=>aS a2 λ a3 => .ret (vb (a3==p),[])) (.ret (vb false,[]))) (.ret (vb false,[])))))))))):=aF
end Go.Dn.Dec
