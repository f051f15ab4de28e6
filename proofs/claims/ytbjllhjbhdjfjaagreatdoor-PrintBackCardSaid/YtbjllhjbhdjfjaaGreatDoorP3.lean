/- Regions: what holds behind whatever operations have come up. -/
import Derived.Test.YtbjllhjbhdjfjaaGreatDoorP2
import Derived.Control
import Derived.Below
set_option linter.unusedVariables false
set_option linter.unusedSimpArgs false
set_option linter.unusedSectionVars false
namespace Go.Dn
section
variable {P : Program} {aK : Pol}
theorem Ap{f:Task->Option Out}{k r i:Nat}{ops:List Oper}{vals:List V}{fl:Fl}{S S':List Ob}{o:Oper}{v:V}(h:aD f (gU P aK k r i ops vals fl S o)=some (v,S')):S.length<=S'.length:=by
 unfold gU at h;split at h
 ·-- box
  simp only[bE,abd,aD,Option.some.injEq]at h;obtain⟨sz,hsz,vx,hvx,r',hr',e⟩:=h;subst e;have hn:∀{t cs fl},kI S t fl cs=some (v,S')->S.length<=S'.length:=by
   intro t cs fl h;unfold kI at h;split at h
   ·simp at h;rw[<-h.2];simp
   ·simp at h
  unfold oL at hr';split at hr'
  ·split at hr'
   ·exact hn hr'
   ·simp at hr'
  ·split at hr'
   ·exact hn hr'
   ·simp at hr'
 ·-- store
  simp only[bE,abd,aD,Option.some.injEq,Prod.mk.injEq]at h;obtain⟨g,hg,sz,hsz,va,hva,vx,hvx,S1,hS1,rfl,rfl⟩:=h;unfold kr at hS1;split at hS1;rotate_left
  ·simp at hS1
  split at hS1;rotate_left
  ·simp at hS1
  split at hS1
  ·split at hS1;rotate_left
   ·simp at hS1
   split at hS1;rotate_left
   ·simp at hS1
   injection hS1 with hS1;subst hS1;rw[fp];exact aa4 _
  ·split at hS1;rotate_left
   ·simp at hS1
   injection hS1 with hS1;subst hS1;rw[fp];exact aa4 _
 ·simp only[bE,abd,bS]at h;obtain⟨e,he,z,hz,h⟩:=h;split at h;rotate_left
  ·simp at h
  split at h
  ·simp only[bE,abd,aD,Option.some.injEq,Prod.mk.injEq]at h;obtain⟨vn,hvn,vc,hvc,v',hv',rfl,rfl⟩:=h;exact aa4 _
  ·simp only[bE,abd,aD,Option.some.injEq]at h;obtain⟨vn,hvn,vc,hvc,r',hr',e'⟩:=h;subst e';unfold ou at hr';split at hr'
   ·split at hr'
    ·simp at hr';rw[<-hr'.2];simp
    ·simp at hr'
   ·simp at hr'
  ·simp[aD]at h
 ·simp only[bE,abd,bS]at h;obtain⟨e,he,h⟩:=h;split at h;rotate_left
  ·simp at h
  split at h
  ·simp only[bE,abd,bS]at h;obtain⟨xs,hxs,h⟩:=h;split at h;rotate_left
   ·simp at h
   simp only[aD,Option.some.injEq]at h;obtain⟨rfl,rfl⟩:=Prod.mk.inj h;simp
  ·simp[aD]at h
 ·split at h
  ·split at h;rotate_left
   ·simp[aD]at h
   simp only[bE,abd,bS]at h;obtain⟨e,he,sz,hsz,bx,hbx,vy,hvy,h⟩:=h;split at h;rotate_left
   ·simp at h
   split at h
   ·simp only[bS]at h;split at h;rotate_left
    ·simp at h
    simp only[bE,abd,aD,Option.some.injEq,Prod.mk.injEq]at h;obtain⟨v',hv',rfl,rfl⟩:=h;exact aa4 _
   ·simp only[bS,bE]at h;split at h;rotate_left
    ·simp at h
    simp only[abd,aD,Option.some.injEq]at h;obtain⟨r',hr',e'⟩:=h;subst e';unfold Yz at hr';split at hr'
    ·split at hr'
     ·split at hr'
      ·simp at hr';rw[<-hr'.2];simp
      ·simp at hr'
     ·simp at hr'
    ·simp at hr'
   ·simp only[bS,bE,abd,aD]at h;obtain⟨q,hq,h⟩:=h;split at h;rotate_left
    ·simp at h
    simp only[abd,Option.some.injEq,Prod.mk.injEq]at h;obtain⟨v',hv',rfl,rfl⟩:=h;exact aa4 _
   ·simp only[bS,bE,abd,aD]at h;obtain⟨q,hq,⟨z,S1⟩,hun,h⟩:=h;split at h;rotate_left
    ·simp at h
    simp only[abd,Option.some.injEq,Prod.mk.injEq]at h;obtain⟨v',hv',rfl,rfl⟩:=h;unfold re at hun;split at hun;rotate_left
    ·simp at hun
    split at hun;rotate_left
    ·simp at hun
    split at hun;rotate_left
    ·simp at hun
    injection hun with hun;injection hun with _ hun;subst hun
    rw[fp];exact aa4 _
   ·simp[aD]at h
  ·simp only[bE,abd]at h;obtain⟨args,hargs,vf,hvf,h⟩:=h;split at h;rotate_left
   ·simp[aD]at h
   rename_i g;simp only[bS]at h;split at h;rotate_left
   ·simp at h
   rename_i hrb;simp only[decide_eq_true_eq]at hrb;rw[fP]at h;obtain⟨out,hout,h⟩:=abd.1 h;simp only[bE,abd,aD,Option.some.injEq]at h;obtain⟨r2,hj,e⟩:=h;subst e;obtain⟨sh1,_⟩:=pG hj;rcases sh1 with⟨h3,h4⟩|⟨cs,fl',S1,h3,h4,_,h5⟩
   ·simp only at h4;rw[h4];simp[ft hrb,h3];omega
   ·simp only at h5;rw[h5];simp[ft hrb,h4];omega
  ·simp[aD]at h
 ·simp[aD]at h
structure Rg (P:Program) (aK:Pol) (f:Task->Option Out) (k r:Nat) (ops:List Oper) (S0 S1:List Ob) (vs:Nat->List V) (fls:Nat->Fl) (Ss:Nat->List Ob) (ids:Nat->Nat) (rv:Nat->V):Prop where
 tr:Trace P aK f k r ops ops 0 vs fls Ss ids rv
 s0:Ss 0=S1
 id0:ids 0=S0.length
 len1:S1.length=S0.length+z7 ops ops.length
 old:∀id,id<S0.length->bV S1 id=bV S0 id
 al:∀j o,ops[j]?=some o->cy o=true->∃x,NewAt P ops (vs 0) o x/\bV S1 (S0.length+z7 ops j)=some x
 draw:ru P S1.length (fls 0) ops (vs ops.length)=true
 steal:lT P aK S0.length k r true ops (vs ops.length)=true
section
variable {f : Task → Option Out} {k r : Nat} {ops : List Oper} {S0 S1 : List Ob} {vs : Nat → List V} {fls : Nat → Fl} {Ss : Nat → List Ob} {ids : Nat → Nat} {rv : Nat → V}
theorem Rg.ids_eq(h:Rg P aK f k r ops S0 S1 vs fls Ss ids rv):∀j,j<=ops.length->ids j=S0.length+z7 ops j
 |0,_=>by rw[h.id0,wV];rfl
 |j+1,hj=>by
  have ho:=abl (show j<ops.length by omega);rw[h.tr.ids j _ ho,ss ho,h.ids_eq j (by omega)];split<;>rfl
theorem Rg.len(h:Rg P aK f k r ops S0 S1 vs fls Ss ids rv):∀j,j<=ops.length->S1.length<=(Ss j).length
 |0,_=>by rw[h.s0];exact aa4 _
 |j+1,hj=>by
  have ho:=abl (show j<ops.length by omega);refine abI (h.len j (by omega)) ?_;have hst:=h.tr.step j _ ho;generalize ops[j]=o at hst;generalize hSS:Ss (j+1)=T at hst;generalize hr:rv j=v at hst
  cases hst with
  |alloc ha=>exact aa4 _
  |pure ha hg he hp=>exact aa4 _
  |eff ha hg he hp=>
   unfold pg at hp;split at hp
   ·exact Ap hp
   ·split at hp
    ·unfold Yr at hp;split at hp
     ·split at hp
      ·exact Ap hp
      ·simp only[aD,Option.some.injEq,Prod.mk.injEq]at hp;rw[hp.2];exact aa4 _
     ·simp only[aD,Option.some.injEq,Prod.mk.injEq]at hp;rw[hp.2];exact aa4 _
     ·simp[aD]at hp
    ·simp[aD]at hp
theorem jh{n1:Nat}{fl:Fl}{vals:List V}(h:ru P n1 fl ops vals=true){j:Nat}{y:Oper}(hy:ops[j]?=some y):
  (∀e∈y.after.toList,Region.binds .any e=true->e.on<j)/\
  (∀t,y.op = .assign (.tmp t)->∀o∈ops,o.dst=some t->∀x,o.op ≠ .assign x)/\(∀cs b,y.op ≠ .select cs b)/\(∀d,cy y=true->y.dst=some d->kU fl ops d=false)/\
  ∀i x,i<j->ops[i]?=some x->ic P n1 fl ops vals (gZ ops []) x y i j=true:=by
 unfold ru at h;have h1:=abu.1 h (y,j) (List.mem_zipIdx_iff_getElem?.2 hy);simp only[Bool.and_eq_true]at h1;obtain⟨⟨⟨h1,h2⟩,h4⟩,h3⟩:=h1;refine⟨λ e he hb=>?_,λ t ht o ho hd x hx=>?_,λ cs b hs=>?_,λ d ht hd=>?_,λ i x hi hx=>?_⟩
 ·rw[Array.all_eq_true_iff_forall_mem]at h1;have:=h1 e (by simpa using he);simpa[hb]using this
 ·rw[ht]at h2;have:=abu.1 h2 o ho;simp[hd,hx]at this
 ·rw[hs]at h2;simp at h2
 ·rw[ht]at h4;simpa[hd]using h4
 ·have:=abu.1 h3 (x,i) (List.mem_zipIdx_iff_getElem?.2 (by rw[abP hi];exact hx))
  exact this
end
end
section
variable {P : Program} {aK : Pol}
theorem nf(dst:Option Nat)(v:V)(vals:List V)(t:Nat):(rU dst v vals).getD t .u=if dst=some t/\t<vals.length then v else vals.getD t .u:=by
 cases dst with
 |none=>simp[rU]
 |some d=>
  simp only[rU,abG,List.getElem?_set];by_cases e:d=t
  ·subst e;by_cases h:d<vals.length
   ·simp[h]
   ·simp[h,abN (Nat.le_of_not_lt h)]
  ·simp[e]
theorem vI(dst:Option Nat)(v:V)(vals:List V):(rU dst v vals).length=vals.length:=by cases dst<;>simp[rU]
section
variable {f : Task → Option Out} {k r : Nat} {ops : List Oper} {S0 S1 : List Ob} {vs : Nat → List V} {fls : Nat → Fl} {Ss : Nat → List Ob} {ids : Nat → Nat} {rv : Nat → V}
def Wr(ops:List Oper)(j t:Nat):Prop:=∃o,ops[j]?=some o/\o.dst=some t
def Ef(P:Program)(fl:Fl)(ops:List Oper)(j:Nat):Prop:=∃o,ops[j]?=some o/\cls P fl ops o=3
theorem Rg.vlen(h:Rg P aK f k r ops S0 S1 vs fls Ss ids rv):∀j,j<=ops.length->(vs j).length=(vs 0).length
 |0,_=>rfl
 |j+1,hj=>by
  have ho:=abl (show j<ops.length by omega);rw[h.tr.vs j _ ho,vI,h.vlen j (by omega)]
theorem Rg.vs_same(h:Rg P aK f k r ops S0 S1 vs fls Ss ids rv){t a:Nat}:∀b,a<=b->b<=ops.length->(∀j,a<=j->j<b->¬Wr ops j t)->(vs b).getD t .u=(vs a).getD t .u
  | 0, hab, _, _ => by have : a = 0 := by omega
                       subst this;rfl
  |b+1,hab,hb,hn=>by
    rcases abn b a with hlt|hge
    · have : a = b + 1 := by omega
      subst this;rfl
    · have ho := abl (show b < ops.length by omega)
      rw[h.tr.vs b _ ho,nf,aaN]
      · exact h.vs_same b hge (by omega) λ j h1 h2=>hn j h1 (by omega)
      · intro hc;exact hn b hge (by omega) ⟨_,ho,hc.1⟩
structure Hold (P:Program) (aK:Pol) (k r:Nat) (ops:List Oper) (n0:Nat) (vals:List V) (i t q id off:Nat):Prop where
 old:id<n0
 addr:vals.getD q .u = .p id off
 there:∃j e,j<i/\ops[j]?=some e/\e.dst=some t
 early:∀j e,ops[j]?=some e->early (gZ ops []) true i j=true->gM e=true->gf P vals id off 1 e=true/\steady ops e j=true
 copy:∀j e,ops[j]?=some e->e.dst=some t->steady ops e j=true/\e.guard=none/\∃ty,e.op = .load ty (.tmp q)/\cq P ty=some 1/\mP P ty=some false
structure RI (P:Program) (aK:Pol) (k r:Nat) (ops:List Oper) (S0 S1:List Ob) (vs:Nat->List V) (fls:Nat->Fl) (Ss:Nat->List Ob) (ids:Nat->Nat) (w0:World) (G0:Sg) (a0:Act) (L:Nat->Prop) (a:Act) (w:World) (G:Sg) (vals:List V) (m:Nat):Prop where
 inv:Inv w G (Ss m)
 ext:Ext w0 G0 S0 w G (Ss m)
 fr:Fr G vals a
 vl:vals.length=(vs 0).length
 sz:a.tmps.size=a0.tmps.size
 df:a.defers=a0.defers
 cur:∀t b,b<=ops.length->(∀j,j<b->Wr ops j t->L j)->(∀j,b<=j->Wr ops j t->¬L j)->vals.getD t .u=(vs b).getD t .u
 m_le:m<=ops.length
 pre1:∀j,j<m->Ef P (fls 0) ops j->L j
 pre2:∀j,m<=j->Ef P (fls 0) ops j->¬L j
 tok:iO w G a (fls m)
 ph:∀j o,ops[j]?=some o->cy o=true->¬L j->(∀b,G.own b≠some (.obj (ids j)))/\bV (Ss m) (ids j)=bV S1 (ids j)
 closed:nH ops L
 c1:∀t,(∀j,Wr ops j t->¬L j)->a.tmps.getD t undef=a0.tmps.getD t undef
 c2:∀t q,t<a0.tmps.size->(∀(j:Nat) (o:Oper),ops[j]?=some o->o.dst=some t->o.guard=none/\o.op = .move (.tmp q))->(∃j,Wr ops j t/\L j)->(∀j,Wr ops j q->¬L j)->a.tmps.getD t undef=a0.tmps.getD q undef
 c3:∀i t q id off,Hold P aK k r ops S0.length (vs ops.length) i t q id off->¬L i->∀b,G0.own b=some (.obj id)->w.cell? ⟨b,off,none⟩=w0.cell? ⟨b,off,none⟩
 c4:∀i t q id off,Hold P aK k r ops S0.length (vs ops.length) i t q id off->¬L i->t<a0.tmps.size->(∃j,Wr ops j t/\L j)->∃b,G0.own b=some (.obj id)/\w0.cell? ⟨b,off,none⟩=some (a.tmps.getD t undef)
def sf(L:Nat->Prop)(i:Nat):Nat->Prop:=λ j=>L j\/j=i
variable {w0 : World} {G0 : Sg} {a0 : Act} {L : Nat → Prop} {a : Act} {w : World} {G : Sg} {vals : List V} {m : Nat}
structure Ready (ops:List Oper) (L:Nat->Prop) (i:Nat) (o:Oper):Prop where
 at_:ops[i]?=some o
 not:¬L i
 deps:∀e∈o.after.toList,Region.binds .any e=true->L e.on
theorem wy(h:Rg P aK f k r ops S0 S1 vs fls Ss ids rv)(hc:nH ops L){i:Nat}{o:Oper}(hr:Ready ops L i o){j:Nat}{x:Oper}(hx:ops[j]?=some x)(hji:j<i)(hL:¬L j):
  apart ops x o=true/\ic P S1.length (fls 0) ops (vs ops.length) [] x o j i=true:=by
 have ho:=(jh h.draw hr.at_).2.2.2.2 j x hji hx;have hb:((gZ ops []).getD i 0).testBit j=false:=by
  cases hb:((gZ ops []).getD i 0).testBit j with
  |false=>rfl
  |true=>exact absurd (j6 hc i o hr.at_ hr.deps j hb) hL
 unfold ic at ho⊢;rw[hb,Bool.false_or,Bool.and_eq_true]at ho;refine⟨ho.1,?_⟩;simp only[List.getD_nil,Nat.zero_testBit,Bool.false_or,Bool.and_eq_true];exact ho
theorem wu(h:Rg P aK f k r ops S0 S1 vs fls Ss ids rv)(hc:nH ops L){i:Nat}{o:Oper}(hr:Ready ops L i o){j:Nat}{y:Oper}(hy:ops[j]?=some y)(hij:i<j)(hL:L j):
  apart ops o y=true/\ic P S1.length (fls 0) ops (vs ops.length) [] o y i j=true:=by
 have ho:=(jh h.draw hy).2.2.2.2 i o hij hr.at_;have hb:((gZ ops []).getD j 0).testBit i=false:=by
  cases hb:((gZ ops []).getD j 0).testBit i with
  |false=>rfl
  |true=>exact absurd (j6 hc j y hy (hc j y hy hL) i hb) hr.not
 unfold ic at ho⊢;rw[hb,Bool.false_or,Bool.and_eq_true]at ho;refine⟨ho.1,?_⟩;simp only[List.getD_nil,Nat.zero_testBit,Bool.false_or,Bool.and_eq_true];exact ho
theorem apart_spec{x y:Oper}(h:apart ops x y=true):(∀d,x.dst=some d->d∉looks ops y/\y.dst≠some d)/\∀d,y.dst=some d->d∉looks ops x:=by
 unfold apart at h;rw[Bool.and_eq_true]at h;refine⟨λ d hd=>?_,λ d hd=>?_⟩
 ·have:=h.1;rw[hd]at this;simpa using this
 ·have:=h.2;rw[hd]at this;simpa using this
theorem qy(h:Rg P aK f k r ops S0 S1 vs fls Ss ids rv)(hc:nH ops L){i:Nat}{o:Oper}(hr:Ready ops L i o){t:Nat}(ht:t∈looks ops o):(∀j,j<i->Wr ops j t->L j)/\(∀j,i<=j->Wr ops j t->¬L j):=by
 refine⟨λ j hj ⟨x,hx,hd⟩=>Classical.byContradiction λ hL=>?_,λ j hj ⟨y,hy,hd⟩ hL=>?_⟩
 ·exact((apart_spec (wy h hc hr hx hj hL).1).1 t hd).1 ht
 ·rcases abn i j with hij|hij
  ·exact(apart_spec (wu h hc hr hy hij hL).1).2 t hd ht
  ·have:j=i:=by omega
   subst this;exact hr.not hL
theorem T2(h:Rg P aK f k r ops S0 S1 vs fls Ss ids rv)(hc:nH ops L){i:Nat}{o:Oper}(hr:Ready ops L i o){d:Nat}(hd:o.dst=some d):(∀j,j<i->Wr ops j d->L j)/\(∀j,i<=j->Wr ops j d->¬L j):=by
 refine⟨λ j hj ⟨x,hx,hd'⟩=>Classical.byContradiction λ hL=>?_,λ j hj ⟨y,hy,hd'⟩ hL=>?_⟩
 ·exact((apart_spec (wy h hc hr hx hj hL).1).1 d hd').2 hd
 ·rcases abn i j with hij|hij
  ·exact((apart_spec (wu h hc hr hy hij hL).1).1 d hd).2 hd'
  ·have:j=i:=by omega
   subst this;exact hr.not hL
theorem Xd(h:Rg P aK f k r ops S0 S1 vs fls Ss ids rv)(hc:nH ops L){i:Nat}{o:Oper}(hr:Ready ops L i o)(he:cls P (fls 0) ops o=3):(∀j,j<i->Ef P (fls 0) ops j->L j)/\(∀j,i<=j->Ef P (fls 0) ops j->¬L j):=by
 refine⟨λ j hj ⟨x,hx,hd⟩=>Classical.byContradiction λ hL=>?_,λ j hj ⟨y,hy,hd⟩ hL=>?_⟩
 ·have:=(wy h hc hr hx hj hL).2;unfold ic at this;simp[hd,he]at this
 ·rcases abn i j with hij|hij
  ·have:=(wu h hc hr hy hij hL).2;unfold ic at this;simp[hd,he]at this
  ·have:j=i:=by omega
   subst this;exact hr.not hL
theorem js{o:Oper}{t:Nat}(h:Operand.tmp t∈o.op.operands.toList):t∈looks ops o:=
 List.mem_append_left _ (List.mem_filterMap.2 ⟨_,h,rfl⟩)
theorem kt{vals vals':List V}{o:Oper}(h:∀t∈looks ops o,vals.getD t .u=vals'.getD t .u):zo vals vals' o:=by
 intro x hx
 cases x with
 |tmp t=>simp only[ev];rw[h t (js hx)]
 |_=>rfl
theorem fU{o:Oper}{j:Nat}(h:steady ops o j=true){t:Nat}(ht:t∈looks ops o):∀l,j<=l->¬Wr ops l t:=by rintro l hl ⟨e,he,hd⟩;unfold steady at h;have hm:e∈ops.drop j:=List.mem_iff_getElem?.2 ⟨l-j,by rw[List.getElem?_drop,show j+(l-j)=l by omega];exact he⟩;have:=abu.1 h e hm;rw[hd]at this;simp at this;exact this ht
end
end
section
variable {P : Program} {aK : Pol}
section
variable {f : Task → Option Out} {k r : Nat} {ops : List Oper} {S0 S1 : List Ob} {vs : Nat → List V} {fls : Nat → Fl} {Ss : Nat → List Ob} {ids : Nat → Nat} {rv : Nat → V}
variable {w0 : World} {G0 : Sg} {a0 : Act} {L : Nat → Prop} {a : Act} {w : World} {G : Sg} {vals : List V} {m : Nat}
theorem tG{vals vals':List V}{id off n:Nat}{o:Oper}(h:zo vals vals' o):gf P vals id off n o=gf P vals' id off n o:=by
 unfold zo at h;unfold gf;cases hop:o.op<;>rw[hop]at h<;>simp only[Op.operands]at h<;>try rfl
 case store t ad x=>simp at h;simp only[h.1]
 case call c=>
  have ha:∀x∈c.args.toList,ev vals x=ev vals' x:=λ x hx=>h x (by simp[Call.operands];right;simpa using hx);simp only;split
  ·rename_i g hcal;rw[mapM_congr ha,h g (by simp[Call.operands,hcal])]
  ·rfl
  ·rfl
theorem RI.looks_val(h:Rg P aK f k r ops S0 S1 vs fls Ss ids rv)(hR:RI P aK k r ops S0 S1 vs fls Ss ids w0 G0 a0 L a w G vals m){i:Nat}{o:Oper}(hr:Ready ops L i o):∀t∈looks ops o,vals.getD t .u=(vs i).getD t .u:=by intro t ht;obtain⟨h1,h2⟩:=qy h hR.closed hr ht;exact hR.cur t i (Nat.le_of_lt (abE.1 hr.at_).1) h1 h2
theorem Pt(hc:nH ops L){i:Nat}{o:Oper}(hr:Ready ops L i o){i':Nat}(hn:¬L i')(hne:i'≠i):early (gZ ops []) true i' i=true:=by
 unfold early;have hb:((gZ ops []).getD i 0).testBit i'=false:=by
  cases hb:((gZ ops []).getD i 0).testBit i' with
  |false=>rfl
  |true=>exact absurd (j6 hc i o hr.at_ hr.deps i' hb) hn
 rw[hb];simp;exact λ e=>hne e.symm
theorem advance(h:Rg P aK f k r ops S0 S1 vs fls Ss ids rv)(hR:RI P aK k r ops S0 S1 vs fls Ss ids w0 G0 a0 L a w G vals m)(hlen:(vs 0).length<=a0.tmps.size){i:Nat}{o:Oper}(hr:Ready ops L i o){x:Value}{w':World}{G':Sg}{m':Nat}
  (hrv:RV G' (rv i) x) (hinv:Inv w' G' (Ss m')) (hext:Ext w0 G0 S0 w' G' (Ss m')) (hle:Le G G') (hm':m'<=ops.length) (hp1:∀j,j<m'->Ef P (fls 0) ops j->sf L i j) (hp2:∀j,m'<=j->Ef P (fls 0) ops j->¬sf L i j)
  (htok:iO w' G' (a.put o.dst x) (fls m')) (hph:∀j o',ops[j]?=some o'->cy o'=true->¬sf L i j->(∀b,G'.own b≠some (.obj (ids j)))/\bV (Ss m') (ids j)=bV S1 (ids j))
  (hmove:∀y,o.guard=none->o.op = .move y->x=a.eval y)
  (hload:∀ty q id off,o.guard=none->o.op = .load ty (.tmp q)->cq P ty=some 1->mP P ty=some false->(vs i).getD q .u = .p id off->∃b,G.own b=some (.obj id)/\w.cell? ⟨b,off,none⟩=some x)
  (hsp:∀id off,(gM o=true->gf P vals id off 1 o=true)->∀b,G.own b=some (.obj id)->w'.cell? ⟨b,off,none⟩=w.cell? ⟨b,off,none⟩):
  RI P aK k r ops S0 S1 vs fls Ss ids w0 G0 a0 (sf L i) (a.put o.dst x) w' G' (rU o.dst (rv i) vals) m':=by
 have hi:=(abE.1 hr.at_).1;have hput:∀t,(a.put o.dst x).tmps.getD t undef=if o.dst=some t then(if t<a.tmps.size then x else undef)else a.tmps.getD t undef:=by
  intro t
  cases hd:o.dst with
  |none=>simp[QL]
  |some d=>
   rw[yh];by_cases e:t=d
   ·subst e;simp
   ·simp[e,Ne.symm e]
 have hc3:∀i' t q id off,Hold P aK k r ops S0.length (vs ops.length) i' t q id off->¬sf L i i'->∀b,G0.own b=some (.obj id)->w'.cell? ⟨b,off,none⟩=w0.cell? ⟨b,off,none⟩:=by intro i' t q id off hh hn b hb;have hn1:¬L i':=λ e=>hn (.inl e);have hne:i'≠i:=λ e=>hn (.inr e);rw[<-hR.c3 i' t q id off hh hn1 b hb];refine hsp id off (λ he=>?_) b (hR.ext.obj _ _ hb);obtain⟨s1,s2⟩:=hh.early i o hr.at_ (Pt hR.closed hr hn1 hne) he;rw[<-s1];refine tG (kt (ops:=ops) λ t ht=>?_);rw[hR.looks_val h hr t ht];exact(h.vs_same ops.length (Nat.le_of_lt hi) (aa4 _) λ j h1 _=>fU s2 ht j h1).symm
 refine⟨hinv,hext,λ t=>?_,by rw[vI];exact hR.vl,by cases o.dst<;>simp[Act.put,hR.sz],by cases o.dst<;>simp[Act.put,hR.df],λ t b hb h1 h2=>?_,hm',hp1,hp2,htok,hph,λ j o' ho' hL e he hbi=>?_,λ t ht=>?_,λ t q hts hall hex hq=>?_,hc3,λ i' t q id off hh hn hts hex=>?_⟩
 ·-- values
  rw[nf,hput];by_cases hd:o.dst=some t
  ·by_cases hl:t<vals.length
   ·rw[aaR ⟨hd,hl⟩,aaR hd,aaR (by rw[hR.sz];have:=hR.vl;omega)]
    exact hrv
   ·rw[aaN (λ e=>hl e.2)];rw[abG,abN (by omega)];simp only[Option.getD_none,RV]
  ·rw[aaN (λ e=>hd e.1),aaN hd];exact RV.mono hle _ _ (hR.fr t)
 ·-- as the text's order says
  by_cases hd:o.dst=some t
  ·have hib:i<b:=by
    rcases abn i b with hlt|hge
    ·exact hlt
    ·exact absurd (.inr rfl) (h2 i hge ⟨o,hr.at_,hd⟩)
   have e1:(vs (i+1)).getD t .u=(rU o.dst (rv i) (vs i)).getD t .u:=by rw[h.tr.vs i o hr.at_]
   have hno:∀j,i+1<=j->j<b->¬Wr ops j t:=by
    intro j hj hjb hw;have hL:L j:=by
     rcases h1 j hjb hw with hL|e
     ·exact hL
     ·omega
    exact(T2 h hR.closed hr hd).2 j (by omega) hw hL
   rw[h.vs_same b (by omega) hb hno,e1,nf,nf,h.vlen i (Nat.le_of_lt hi),hR.vl];by_cases hl:t<(vs 0).length
   ·rw[aaR ⟨hd,hl⟩,aaR ⟨hd,hl⟩]
   ·rw[aaN (λ e=>hl e.2),aaN (λ e=>hl e.2)];rw[abG,abG,abN (by rw[hR.vl];omega),abN (by rw[h.vlen i (Nat.le_of_lt hi)];omega)]
  ·rw[nf,aaN (λ e=>hd e.1)];have hnw:¬Wr ops i t:=λ ⟨o',ho',hd'⟩=>by rw[hr.at_]at ho';injection ho' with ho';subst ho';exact hd hd'
   refine hR.cur t b hb (λ j hj hw=>?_) (λ j hj hw hL=>h2 j hj hw (.inl hL));rcases h1 j hj hw with hL|e
   ·exact hL
   ·subst e;exact absurd hw hnw
 ·-- what is waited for
  rcases hL with hL|e'
  ·exact .inl (hR.closed j o' ho' hL e he hbi)
  ·subst e';rw[hr.at_]at ho';injection ho' with ho';subst ho'
   exact .inl (hr.deps e he hbi)
 ·have hd:o.dst≠some t:=λ hd=>ht i ⟨o,hr.at_,hd⟩ (.inr rfl);rw[hput,aaN hd];exact hR.c1 t λ j hw hL=>ht j hw (.inl hL)
 ·-- copies of slots
  have hq':∀j,Wr ops j q->¬L j:=λ j hw hL=>hq j hw (.inl hL);rw[hput];by_cases hd:o.dst=some t
  ·obtain⟨g1,g2⟩:=hall i o hr.at_ hd;rw[aaR hd,aaR (by rw[hR.sz];exact hts),hmove _ g1 g2];exact hR.c1 q hq'
  ·rw[aaN hd];obtain⟨j,hw,hL⟩:=hex;refine hR.c2 t q hts hall ⟨j,hw,?_⟩ hq';rcases hL with hL|e
   ·exact hL
   ·subst e;obtain⟨o',ho',hd'⟩:=hw;rw[hr.at_]at ho';injection ho' with ho';subst ho';exact absurd hd' hd
 ·-- copies of cells
  have hn1:¬L i':=λ e=>hn (.inl e);rw[hput];by_cases hd:o.dst=some t
  ·obtain⟨s1,g1,ty,g2,g3,g4⟩:=hh.copy i o hr.at_ hd;have hql:q∈looks ops o:=js (by rw[g2];simp[Op.operands]);have hqv:(vs i).getD q .u = .p id off:=by rw[<-hh.addr];exact(h.vs_same ops.length (Nat.le_of_lt hi) (aa4 _) λ j h1 _=>fU s1 hql j h1).symm
   obtain⟨b,hb,hcell⟩:=hload ty q id off g1 g2 g3 g4 hqv;have hb0:=hR.ext.newo b id hb hh.old;rw[aaR hd,aaR (by rw[hR.sz];exact hts)];exact⟨b,hb0,by rw[<-hR.c3 i' t q id off hh hn1 b hb0];exact hcell⟩
  ·rw[aaN hd];obtain⟨j,hw,hL⟩:=hex;refine hR.c4 i' t q id off hh hn1 hts ⟨j,hw,?_⟩;rcases hL with hL|e
   ·exact hL
   ·subst e;obtain⟨o',ho',hd'⟩:=hw;rw[hr.at_]at ho';injection ho' with ho';subst ho';exact absurd hd' hd
end
end
section
variable {P : Program} {aK : Pol}
theorem vq{k r i:Nat}{ops:List Oper}{fl:Fl}{o:Oper}{q z:Nat}(h:(q,z)∈cv P aK k r i ops fl o):(q,z)∈fl\/o.dst=some q/\(lJ o=true\/∃t z',o.op = .assign (.tmp t)/\tok fl t=some z'):=by
 have h1:∀{x:Nat×Nat},x∈(match o.dst with|some d=>eV fl d|none=>fl)->x∈fl:=by
  intro x hx
  cases hd:o.dst with
  |none=>rw[hd]at hx;exact hx
  |some d=>rw[hd]at hx;exact j9 _ hx
 unfold cv at h;simp only at h;split at h
 ·exact .inl (h1 h)
 ·split at h
  ·rename_i t d hop hd;split at h
   ·rename_i z' hz;rcases List.mem_cons.1 h with e|h
    ·injection e with e1 e2;subst e1
     exact .inr ⟨hd,.inr ⟨t,z',hop,hz⟩⟩
    ·exact .inl (h1 (j9 _ h))
   ·exact .inl (h1 h)
  ·rename_i d hop hd;split at h
   ·rcases List.mem_cons.1 h with e|h
    ·injection e with e1 e2;subst e1
     exact .inr ⟨hd,.inl (by simp[lJ,hop])⟩
    ·exact .inl (h1 h)
   ·exact .inl (h1 h)
  ·exact .inl (h1 (j9 _ h))
  ·rename_i t n c d hop hd;split at h
   ·split at h
    ·rcases List.mem_cons.1 h with e|h
     ·injection e with e1 e2;subst e1
      exact .inr ⟨hd,.inl (by simp[lJ,hop])⟩
     ·exact .inl (h1 h)
    ·exact .inl (h1 h)
   ·exact .inl (h1 h)
  ·rename_i c d hop hd;split at h
   ·rename_i hcal;have hmk:lJ o=true:=by simp[lJ,hop,hcal]
    split at h
    ·split at h
     ·rcases List.mem_cons.1 h with e|h
      ·injection e with e1 e2;subst e1;exact .inr ⟨hd,.inl hmk⟩
      ·exact .inl (h1 h)
     ·split at h
      ·rcases List.mem_cons.1 h with e|h
       ·injection e with e1 e2;subst e1;exact .inr ⟨hd,.inl hmk⟩
       ·exact .inl (h1 (j9 _ h))
      ·exact .inl (h1 h)
     ·rcases List.mem_cons.1 h with e|h
      ·injection e with e1 e2;subst e1;exact .inr ⟨hd,.inl hmk⟩
      ·exact .inl (h1 h)
     ·exact .inl (h1 h)
    ·exact .inl (h1 h)
   ·exact .inl (h1 h)
  ·exact .inl (h1 h)
theorem MQ{fl:Fl}{ops:List Oper}{o:Oper}{q:Nat}(ho:o∈ops)(hd:o.dst=some q)(hm:lJ o=true):rH fl ops q=true:=by unfold rH;rw[Bool.or_eq_true];exact .inr (List.any_eq_true.2 ⟨o,ho,by simp[hd,hm]⟩)
theorem MP{fl:Fl}{ops:List Oper}{q z:Nat}(h:(q,z)∈fl):rH fl ops q=true:=by
 unfold rH;rw[Bool.or_eq_true];left;unfold tok
 cases hf:fl.find? (·.1==q) with
 |some x=>rfl
 |none=>have:=List.find?_eq_none.1 hf _ h;simp at this
theorem rO{fl:Fl}{ops:List Oper}{o:Oper}{q:Nat}(ha:cy o=false)(hd:o.dst=some q)(hm:kU fl ops q=true):cls P fl ops o=3:=by
 unfold cls;rw[ha];simp only[Bool.false_eq_true,if_false];split
 ·rfl
 ·simp[hd,hm]
section
variable {f : Task → Option Out} {k r : Nat} {ops : List Oper} {S0 S1 : List Ob} {vs : Nat → List V} {fls : Nat → Fl} {Ss : Nat → List Ob} {ids : Nat → Nat} {rv : Nat → V}
theorem Rg.may(h:Rg P aK f k r ops S0 S1 vs fls Ss ids rv):∀j,j<=ops.length->∀q z,(q,z)∈fls j->kU (fls 0) ops q=true
 |0,_,q,z,hm=>by unfold kU;rw[MP hm];rfl
 |j+1,hj,q,z,hm=>by
  have ho:=abl (show j<ops.length by omega);have hmem:=abQ ho;rw[h.tr.fls j _ ho]at hm;rcases vq hm with hm|⟨hd,hm|⟨t,z',hop,hz⟩⟩
  ·exact h.may j (by omega) q z hm
  ·unfold kU;rw[MQ hmem hd hm];rfl
  ·have ht:=h.may j (by omega) t z' (qE hz)
   have hno:=(jh h.draw ho).2.1 t hop;unfold kU at ht;rw[Bool.or_eq_true]at ht;have hth:rH (fls 0) ops t=true:=by
    rcases ht with ht|ht
    ·exact ht
    ·obtain⟨o',ho',hx⟩:=List.any_eq_true.1 ht;rw[Bool.and_eq_true]at hx;obtain⟨e1,e2⟩:=hx;have e1':o'.dst=some t:=by simpa using e1
     cases hop':o'.op with
     |assign y=>exact absurd hop' (hno o' ho' e1' y)
     |_=>rw[hop']at e2;simp at e2
   unfold kU;rw[Bool.or_eq_true];exact .inr (List.any_eq_true.2 ⟨_,hmem,by rw[hop,hd];simp[hth]⟩)
theorem Rg.fls_sub(h:Rg P aK f k r ops S0 S1 vs fls Ss ids rv){j:Nat}{o:Oper}(ho:ops[j]?=some o)(he:cls P (fls 0) ops o≠3):∀x∈fls (j+1),x∈fls j:=by
 intro x hx;have hj:=(abE.1 ho).1;have hmay:=h.may (j+1) hj x.1 x.2 hx;rw[h.tr.fls j o ho]at hx;rcases vq (q:=x.1) (z:=x.2) hx with hx|⟨hd,hm⟩
 ·exact hx
 ·cases ha:cy o with
  |false=>exact absurd (rO ha hd hmay) he
  |true=>
   obtain⟨t,ht⟩:∃t,o.op = .alloc t\/∃x,o.op = .box t x:=by
    unfold cy at ha;split at ha
    ·rename_i t h1 _;exact⟨t,.inl h1⟩
    ·rename_i t q h1 _;exact⟨t,.inr ⟨_,h1⟩⟩
    ·cases ha
   rcases ht with ht|⟨_,ht⟩<;>rcases hm with hm|⟨t',z',h1,_⟩
   all_goals first
    |simp[lJ,ht]at hm
    |(rw[ht]at h1;cases h1)
theorem Rg.dst_free(h:Rg P aK f k r ops S0 S1 vs fls Ss ids rv){i j:Nat}{o:Oper}(ho:ops[i]?=some o)(he:cls P (fls 0) ops o≠3)(hj:j<=ops.length){d:Nat}(hd:o.dst=some d):∀z,(d,z)∉fls j:=by
 intro z hm;have hmay:=h.may j hj d z hm
 cases ha:cy o with
 |false=>exact absurd (rO ha hd hmay) he
 |true=>
  have:=(jh h.draw ho).2.2.2.1 d ha hd;rw[hmay]at this;cases this
theorem Rg.Ss_same(h:Rg P aK f k r ops S0 S1 vs fls Ss ids rv){j:Nat}{o:Oper}(ho:ops[j]?=some o)(he:cls P (fls 0) ops o≠3):Ss (j+1)=Ss j:=by
 have hst:=h.tr.step j o ho;generalize hSS:Ss (j+1)=T at hst;generalize hr:rv j=v at hst
 cases hst with
 |alloc ha=>rfl
 |pure ha hg he hp=>rfl
 |eff ha hg he' hp=>exact absurd (by unfold cls;simp[ha,he']) he
theorem Rg.run_same(h:Rg P aK f k r ops S0 S1 vs fls Ss ids rv){a:Nat}:∀b,a<=b->b<=ops.length->(∀j,a<=j->j<b->¬Ef P (fls 0) ops j)->Ss b=Ss a/\∀x∈fls b,x∈fls a
  | 0, hab, _, _ => by have : a = 0 := by omega
                       subst this;exact⟨rfl,λ _ h=>h⟩
  |b+1,hab,hb,hn=>by
    rcases abn b a with hlt|hge
    · have : a = b + 1 := by omega
      subst this;exact⟨rfl,λ _ h=>h⟩
    · have ho := abl (show b < ops.length by omega)
      have he:cls P (fls 0) ops ops[b]≠3:=λ e=>hn b hge (by omega) ⟨_,ho,e⟩;obtain⟨h1,h2⟩:=h.run_same b hge (by omega) λ j q1 q2=>hn j q1 (by omega);exact⟨(h.Ss_same ho he).trans h1,λ x hx=>h2 x (h.fls_sub ho he x hx)⟩
end
end
section
variable {P : Program} {aK : Pol} {G : Sg} {a : Act} {opsA : Array Oper}
theorem Dp{j g:Nat}{c:Bool}(hd:(opsA.toList[j]?).bind (·.dst)=some g)(hv:a.tmps.getD g undef = .bool c):yielded opsA a.tmps j=some c:=by
 unfold yielded;rw[Array.getElem?_toList]at hd;rw[hd];simp only[Option.bind_some];rw[Array.getD_eq_getD_getElem?]at hv
 cases ht:a.tmps[g]? with
 |none=>rw[ht]at hv;simp[undef]at hv
 |some x=>rw[ht]at hv;simp at hv;subst hv;rfl
theorem Dq{j g:Nat}(hd:(opsA.toList[j]?).bind (·.dst)=some g)(hv:a.tmps.getD g undef = .tuple #[]):yielded opsA a.tmps j=none:=by
 unfold yielded;rw[Array.getElem?_toList]at hd;rw[hd];simp only[Option.bind_some];rw[Array.getD_eq_getD_getElem?]at hv
 cases ht:a.tmps[g]? with
 |none=>rfl
 |some x=>rw[ht]at hv;simp at hv;subst hv;rfl
theorem za{V:List V}{o:Oper}(hfr:∀t∈looks opsA.toList o,RV G (V.getD t .u) (a.tmps.getD t undef)){j g:Nat}{want:Bool}(hg:o.guard=some (j,want))(hd:(opsA.toList[j]?).bind (·.dst)=some g):
  (∀c,V.getD g .u = .d (.b c)->Region.wanted o (yielded opsA a.tmps)=(c==want))/\(V.getD g .u = .t []->Region.wanted o (yielded opsA a.tmps)=false):=by
 have hm:g∈looks opsA.toList o:=by unfold looks;rw[hg];simp only;rw[hd];simp
 have hr:=hfr g hm;constructor
 ·intro c hc;rw[hc]at hr;simp only[RV,RD]at hr;unfold Region.wanted;rw[hg];simp only[Dp hd hr];cases c<;>cases want<;>rfl
 ·intro hc;rw[hc]at hr;simp only[RV,eY]at hr;obtain⟨vs,e1,e2⟩:=hr;have:vs=#[]:=by apply Array.ext';simpa using e2
  subst this;unfold Region.wanted;rw[hg];simp only[Dq hd e1];rfl
theorem Fy{V:List V}{S:List Ob}{o:Oper}{v:Dn.V}(hfr:∀t∈looks opsA.toList o,RV G (V.getD t .u) (a.tmps.getD t undef))(h:Bm P opsA.toList V S o=some v):
  (Region.wanted o (yielded opsA a.tmps)=true/\fA P V S o=some v)\/(Region.wanted o (yielded opsA a.tmps)=false/\v = .t []/\o.guard.isSome=true):=by
 unfold Bm at h;split at h
 ·rename_i hg;exact .inl ⟨by simp[Region.wanted,hg],h⟩
 ·rename_i j want hg;split at h
  ·rename_i g hd;obtain⟨h1,h2⟩:=za hfr hg hd;unfold gd at h;split at h
   ·rename_i c hc;have hw:=h1 c hc;split at h
    ·rename_i e;subst e;exact .inl ⟨by rw[hw];simp,h⟩
    ·rename_i e;injection h with h;exact .inr ⟨by rw[hw];simpa using e,h.symm,by rw[hg];rfl⟩
   ·rename_i hc;injection h with h;exact .inr ⟨h2 hc,h.symm,by rw[hg];rfl⟩
   ·simp at h
  ·simp at h
theorem Ci{f:Task->Option Out}{k r i:Nat}{fl:Fl}{V:List V}{S S':List Ob}{o:Oper}{v:Dn.V}(hfr:∀t∈looks opsA.toList o,RV G (V.getD t .u) (a.tmps.getD t undef))(h:aD f (pg P aK k r i opsA.toList V fl S o)=some (v,S')):
  (Region.wanted o (yielded opsA a.tmps)=true/\aD f (gU P aK k r i opsA.toList V fl S o)=some (v,S'))\/(Region.wanted o (yielded opsA a.tmps)=false/\v = .t []/\S'=S/\o.guard.isSome=true):=by
 unfold pg at h;split at h
 ·rename_i hg;exact .inl ⟨by simp[Region.wanted,hg],h⟩
 ·rename_i j want hg;split at h
  ·rename_i g hd;obtain⟨h1,h2⟩:=za hfr hg hd;unfold Yr at h;split at h
   ·rename_i c hc;have hw:=h1 c hc;split at h
    ·rename_i e;subst e;exact .inl ⟨by rw[hw];simp,h⟩
    ·rename_i e;simp only[aD,Option.some.injEq,Prod.mk.injEq]at h;exact .inr ⟨by rw[hw];simpa using e,h.1.symm,h.2.symm,by rw[hg];rfl⟩
   ·rename_i hc;simp only[aD,Option.some.injEq,Prod.mk.injEq]at h;exact .inr ⟨h2 hc,h.1.symm,h.2.symm,by rw[hg];rfl⟩
   ·simp[aD]at h
  ·simp[aD]at h
section
variable {f : Task → Option Out} {k r : Nat} {ops : List Oper} {S0 S1 : List Ob} {vs : Nat → List V} {fls : Nat → Fl} {Ss : Nat → List Ob} {ids : Nat → Nat} {rv : Nat → V} {L : Nat → Prop}
def GV(P:Program)(n1:Nat)(vals:List V)(a b:Oper):Prop:=
 (∃s d x dd,a.op = .convert s d x/\ev vals x=some (.d dd))\/∃t x,a.op = .load t x/\((∃xs i off,ev vals x=some (.e xs i off))\/∃id off n,ev vals x=some (.p id off)/\cq P t=some n/\id<n1/\(mP P t=some true\/n=1)/\gf P vals id off n b=true)
theorem vG{n1:Nat}{vals:List V}{a b:Oper}(h:CR P n1 vals a b=true):GV P n1 vals a b:=by
 unfold CR at h;split at h
 ·rename_i t x hop;split at h
  ·rename_i xs i off he;exact .inr ⟨t,x,hop,.inl ⟨_,_,_,he⟩⟩
  ·rename_i id off n he hn;simp only[Bool.and_eq_true,Bool.or_eq_true,decide_eq_true_eq,beq_iff_eq]at h;exact .inr ⟨t,x,hop,.inr ⟨id,off,n,he,hn,h.1.1,h.1.2,h.2⟩⟩
  ·simp at h
 ·rename_i s d x hop;split at h
  ·rename_i dd he;exact .inl ⟨s,d,x,dd,hop,he⟩
  ·simp at h
 ·simp at h
theorem M5(h:Rg P aK f k r ops S0 S1 vs fls Ss ids rv){i j:Nat}{o e:Oper}(ho:ops[i]?=some o)(he:ops[j]?=some e)(hp:GV P S1.length (vs ops.length) o e)(hs1:steady ops o i=true)(hs2:steady ops e j=true):
    fA P (vs i) (Ss (j+1)) o=fA P (vs i) (Ss j) o:=by
  have hi:=(abE.1 ho).1;have hj:=(abE.1 he).1;have hsi:zo (vs ops.length) (vs i) o:=kt (ops:=ops) λ t ht=>h.vs_same ops.length (Nat.le_of_lt hi) (aa4 _) λ l h1 _=>fU hs1 ht l h1;have hsj:zo (vs ops.length) (vs j) e:=kt (ops:=ops) λ t ht=>h.vs_same ops.length (Nat.le_of_lt hj) (aa4 _) λ l h1 _=>fU hs2 ht l h1;rcases hp with⟨s,d,x,dd,hop,hev⟩|⟨t,x,hop,hcase⟩
  · have hx : ev (vs ops.length) x = ev (vs i) x := hsi x (by rw [hop]; simp [Op.operands])
    rw[hx]at hev;have hview:∀S S':List Ob,view S 1 (.d dd)=view S' 1 (.d dd):=λ S S'=>by cases dd<;>rfl
    unfold fA;simp only[hop,hev];split
    · split
      · split
        · simp only [Option.bind_eq_bind, Option.bind_some]
          rw[hview (Ss (j+1)) (Ss j)]
        · rfl
      · rfl
    · rfl
  have hx:ev (vs ops.length) x=ev (vs i) x:=hsi x (by rw[hop];simp[Op.operands]);have hpv:∀S,fA P (vs i) S o=(do gQ (<-mP P t) (<-cq P t) S (<-ev (vs i) x)):=by intro S;unfold fA;simp only[hop]
  rw[hpv,hpv,<-hx];rcases hcase with⟨xs,i',off,hev⟩|⟨id,off,n,hev,hn,hid,hag,hsp⟩
  · rw[hev];rfl
  · rw [hev, hn]
    cases hta:mP P t with
    |none=>rfl
    |some ag=>
      simp only[Option.bind_eq_bind,Option.bind_some]
      have hag' : ag = true ∨ n = 1 := by rcases hag with e | e; · rw [hta] at e; injection e with e; exact .inl e
                                          · exact .inr e
      refine M3 ?_ hag';rw[tG hsj]at hsp;have hst:=h.tr.step j e he;have hlen:=h.len j (Nat.le_of_lt hj);generalize hSS:Ss (j+1)=T at hst;generalize hr:rv j=v at hst
      cases hst with
      |alloc ha=>rfl
      |pure ha hg hne hp=>rfl
      |eff ha hg hne hp=>
        unfold pg at hp;split at hp
        · exact vN hp hsp (by omega)
        · split at hp
          · unfold Yr at hp
            split at hp
            · split at hp
              · exact vN hp hsp (by omega)
              · simp only[aD,Option.some.injEq,Prod.mk.injEq]at hp;rw[hp.2]
            · simp only[aD,Option.some.injEq,Prod.mk.injEq]at hp;rw[hp.2]
            · simp[aD]at hp
          · simp[aD]at hp
theorem rM(h:Rg P aK f k r ops S0 S1 vs fls Ss ids rv){i a:Nat}{o:Oper}(ho:ops[i]?=some o):∀b,a<=b->b<=ops.length->(∀j e,a<=j->j<b->ops[j]?=some e->cls P (fls 0) ops e=3->GV P S1.length (vs ops.length) o e/\steady ops o i=true/\steady ops e j=true)->fA P (vs i) (Ss b) o=fA P (vs i) (Ss a) o
  | 0, hab, _, _ => by have : a = 0 := by omega
                       subst this;rfl
  |b+1,hab,hb,hn=>by
    rcases abn b a with hlt|hge
    · have : a = b + 1 := by omega
      subst this;rfl
    · have he := abl (show b < ops.length by omega)
      refine Eq.trans ?_ (rM h ho b hge (by omega) λ j e h1 h2 h3 h4=>hn j e h1 (by omega) h3 h4);by_cases h3:cls P (fls 0) ops ops[b]=3
      · obtain ⟨p1, p2, p3⟩ := hn b _ hge (by omega) he h3
        exact M5 h ho he p1 p2 p3
      · rw[h.Ss_same he h3]
theorem Qg(h:Rg P aK f k r ops S0 S1 vs fls Ss ids rv)(hc:nH ops L){i m:Nat}{o:Oper}(hr:Ready ops L i o)(hm:m<=ops.length)(p1:∀j,j<m->Ef P (fls 0) ops j->L j)(p2:∀j,m<=j->Ef P (fls 0) ops j->¬L j)(hcls:cls P (fls 0) ops o=1):
  fA P (vs i) (Ss m) o=fA P (vs i) (Ss i) o:=by
 have hi:=(abE.1 hr.at_).1;rcases Nat.le_total m i with hmi|him
 ·refine(rM h hr.at_ i hmi (Nat.le_of_lt hi) λ j e h1 h2 he h3=>?_).symm;have hL:¬L j:=p2 j h1 ⟨e,he,h3⟩;have:=(wy h hc hr he h2 hL).2;unfold ic at this;rw[h3,hcls]at this;simp only[List.getD_nil,Nat.zero_testBit,Bool.false_or,Bool.and_eq_true]at this;exact⟨vG this.2.1.1,this.2.2,this.2.1.2⟩
 ·refine rM h hr.at_ m him hm λ j e h1 h2 he h3=>?_;have hL:L j:=p1 j h2 ⟨e,he,h3⟩;have hij:i<j:=by
   rcases abn i j with hlt|hge
   ·exact hlt
   ·have:j=i:=by omega
    subst this;exact absurd hL hr.not
  have:=(wu h hc hr he hij hL).2;unfold ic at this;rw[h3,hcls]at this;simp only[List.getD_nil,Nat.zero_testBit,Bool.false_or,Bool.and_eq_true]at this;exact⟨vG this.2.1.1,this.2.1.2,this.2.2⟩
end
end
theorem Ext.trans'{w:World}{G:Sg}{S:List Ob}{w1:World}{G1:Sg}{S1 S1':List Ob}{w2:World}{G2:Sg}{S2:List Ob}(h:Ext w G S w1 G1 S1)(k:Ext w1 G1 S1' w2 G2 S2)(hl:S.length<=S1'.length)(hs:∀id,id<S.length->bV S1' id=bV S1 id):Ext w G S w2 G2 S2:={
 os:=k.os.trans h.os
 tape:=k.tape.trans h.tape
 output:=k.output.trans h.output
 size:=abI h.size k.size
 F b o v x:=k.F b o v (h.F b o v x)
 obj b id x:=k.obj b id (h.obj b id x)
 keep b hb ho:=by obtain⟨h1,h2,h3⟩:=h.keep b hb ho;obtain⟨k1,k2,k3⟩:=k.keep b (abL hb h.size) (by rw[h1];exact ho);exact⟨k1.trans h1,k2.trans h2,λ o=>(k3 o).trans (h3 o)⟩
 newo b id x hid:=h.newo b id (k.newo b id x (abL hid hl)) hid
 ph id hid hn:=((k.ph id (abL hid hl) λ b x=>hn b (h.newo b id x hid)).trans (hs id hid)).trans (h.ph id hid hn)
 len:=abI hl k.len }
section
variable {P : Program} {aK : Pol}
section
variable {f : Task → Option Out} {k r : Nat} {opsA : Array Oper} {S0 S1 : List Ob} {vs : Nat → List V} {fls : Nat → Fl} {Ss : Nat → List Ob} {ids : Nat → Nat} {rv : Nat → V}
variable {w0 : World} {G0 : Sg} {a0 : Act} {L : Nat → Prop} {a : Act} {w : World} {G : Sg} {vals : List V} {m : Nat}
theorem T5(h:Rg P aK f k r opsA.toList S0 S1 vs fls Ss ids rv)(hR:RI P aK k r opsA.toList S0 S1 vs fls Ss ids w0 G0 a0 L a w G vals m){i:Nat}{o:Oper}(hr:Ready opsA.toList L i o)(he:cls P (fls 0) opsA.toList o=3):
  Ss i=Ss m/\(∀x∈fls i,x∈fls m)/\(∀j,j<i+1->Ef P (fls 0) opsA.toList j->sf L i j)/\(∀j,i+1<=j->Ef P (fls 0) opsA.toList j->¬sf L i j):=by
 obtain⟨q1,q2⟩:=Xd h hR.closed hr he;have hi:=(abE.1 hr.at_).1;have hmi:m<=i:=by
  rcases abn i m with hlt|hge
  ·exact absurd (hR.pre1 i hlt ⟨o,hr.at_,he⟩) hr.not
  ·exact hge
 obtain⟨p1,p2⟩:=h.run_same i hmi (Nat.le_of_lt hi) λ j h1 h2 hE=>hR.pre2 j h1 hE (q1 j h2 hE);refine⟨p1,p2,λ j hj hE=>?_,λ j hj hE hP=>?_⟩
 ·rcases abn j i with hlt|hge
  ·exact .inl (q1 j hlt hE)
  ·exact .inr (by omega)
 ·rcases hP with hL|e
  ·exact q2 j (by omega) hE hL
  ·omega
theorem Qq(hR:RI P aK k r opsA.toList S0 S1 vs fls Ss ids w0 G0 a0 L a w G vals m){i:Nat}{o:Oper}(hr:Ready opsA.toList L i o)(he:cls P (fls 0) opsA.toList o≠3):
  (∀j,j<m->Ef P (fls 0) opsA.toList j->sf L i j)/\(∀j,m<=j->Ef P (fls 0) opsA.toList j->¬sf L i j):=by
 refine⟨λ j hj hE => .inl (hR.pre1 j hj hE),λ j hj hE hP=>?_⟩;rcases hP with hL|e
 ·exact hR.pre2 j hj hE hL
 ·subst e;obtain⟨o',ho',h3⟩:=hE;rw[hr.at_]at ho';injection ho' with ho';subst ho';exact he h3
theorem uP{w w':World}{G G':Sg}{a:Act}{fl:Fl}{dst:Option Nat}{x:Value}(h:iO w G a fl)(ht:∀q' sz v,gq w G (.slot q') sz v->gq w' G' (.slot q') sz v)(hd:∀d,dst=some d->∀z,(d,z)∉fl):iO w' G' (a.put dst x) fl:=by
 have:=h.put (dst:=dst) (x:=x) (q:=none) (λ q' sz v _ h=>ht q' sz v h) (by simp);refine this.sub λ y hy=>?_
 cases hds:dst with
 |none=>exact hy
 |some d=>exact(fM (o:=y.1) (z:=y.2)).2 ⟨hy,λ e=>hd d hds y.2 (by rw[<-e];exact hy)⟩
theorem sZ(hR:RI P aK k r opsA.toList S0 S1 vs fls Ss ids w0 G0 a0 L a w G vals m)(h:Rg P aK f k r opsA.toList S0 S1 vs fls Ss ids rv){i m':Nat}{w':World}{G':Sg}(hE:Ext w G (Ss m) w' G' (Ss m')):
  ∀j o',opsA.toList[j]?=some o'->cy o'=true->¬sf L i j->(∀b,G'.own b≠some (.obj (ids j)))/\bV (Ss m') (ids j)=bV S1 (ids j):=by
 intro j o' ho' ha hn;obtain⟨p1,p2⟩:=hR.ph j o' ho' ha (λ e=>hn (.inl e));have hj:=(abE.1 ho').1;have hlt:ids j<(Ss m).length:=by have h1:=h.ids_eq j (Nat.le_of_lt hj);have h2:=h.len m hR.m_le;have h3:=ss ho';rw[aaR ha]at h3;have h4:=wU (ops:=opsA.toList) (show j+1<=opsA.toList.length by omega);have h5:=h.len1;omega
 exact⟨λ b hb=>p1 b (hE.newo b _ hb hlt),by rw[hE.ph _ hlt p1];exact p2⟩
theorem Kq(hF:lA P f)(h:Rg P aK f k r opsA.toList S0 S1 vs fls Ss ids rv)(hR:RI P aK k r opsA.toList S0 S1 vs fls Ss ids w0 G0 a0 L a w G vals m)(hlen:(vs 0).length<=a0.tmps.size){i:Nat}{o:Oper}(hr:Ready opsA.toList L i o)
  {Q:Exit->Act->World->Prop} {K:Act->World->Prop} (hK:∀a' w' G' vals' m',RI P aK k r opsA.toList S0 S1 vs fls Ss ids w0 G0 a0 (sf L i) a' w' G' vals' m'->K a' w'):wpOp P opsA Q i K a w:=by
 have hi:=(abE.1 hr.at_).1;have hat:opsA[i]?=some o:=by rw[<-Array.getElem?_toList];exact hr.at_
 have hlooks:=hR.looks_val h hr;have hfr:∀t∈looks opsA.toList o,RV G ((vs i).getD t .u) (a.tmps.getD t undef):=λ t ht=>by rw[<-hlooks t ht];exact hR.fr t
 have hsame:zo vals (vs i) o:=kt hlooks;unfold wpOp;rw[hat];simp only;have hst:=h.tr.step i o hr.at_;rw[abv]at hst;have hfl1:=h.tr.fls i o hr.at_;rw[abv]at hfl1;have skip:rv i = .t []->Ss (i+1)=Ss i->o.guard.isSome=true->K (a.put o.dst undef) w:=by
  intro hv hS hg;have hgn:o.guard≠none:=λ e=>by rw[e]at hg;cases hg
  have hfl2:cv P aK k r i opsA.toList (fls i) o=(match o.dst with|some d=>eV (fls i) d|none=>fls i):=by unfold cv;simp only[hg,if_true];cases o.dst<;>rfl
  have hrv:RV G (rv i) undef:=by rw[hv];simp only[RV,eY];exact⟨#[],rfl,rfl⟩
  by_cases he:cls P (fls 0) opsA.toList o=3
  ·obtain⟨e1,e2,e3,e4⟩:=T5 h hR hr he;have hSm:Ss (i+1)=Ss m:=hS.trans e1;refine hK _ _ _ _ _ (advance h hR hlen hr (x:=undef) (m':=i+1) hrv (by rw[hSm];exact hR.inv) (by rw[hSm];exact hR.ext) (Le.refl _) hi e3 e4 ?_ (sZ hR h (by rw[hSm];exact Ext.refl _ _ _)) (λ y e=>absurd e hgn) (λ ty q id off e=>absurd e hgn) (λ _ _ _ _ _=>rfl));rw[hfl1,hfl2];exact(hR.tok.sub e2).put (q:=none) (λ _ _ _ _ h=>h) (by simp)
  ·obtain⟨e3,e4⟩:=Qq hR hr he;exact hK _ _ _ _ _ (advance h hR hlen hr (x:=undef) (m':=m) hrv hR.inv hR.ext (Le.refl _) hR.m_le e3 e4 (uP hR.tok (λ _ _ _ h=>h) (λ d hd=>h.dst_free hr.at_ he hR.m_le hd)) (sZ hR h (Ext.refl _ _ _)) (λ y e=>absurd e hgn) (λ ty q id off e=>absurd e hgn) (λ _ _ _ _ _=>rfl))
 generalize hSS:Ss (i+1)=T at hst skip;generalize hrr:rv i=v at hst skip
 cases hst with
 |alloc ha=>
  have hgn:o.guard=none:=by
   unfold cy at ha;split at ha
   ·assumption
   ·assumption
   ·cases ha
  have hne:cls P (fls 0) opsA.toList o≠3:=by unfold cls;rw[ha];simp
  obtain⟨e3,e4⟩:=Qq hR hr hne;have hw:Region.wanted o (yielded opsA a.tmps)=true:=by simp[Region.wanted,hgn]
  rw[aaR hw];left;obtain⟨p1,p2⟩:=hR.ph i o hr.at_ ha hr.not;obtain⟨ob,gn,g5⟩:=h.al i o hr.at_ ha;have hids:=h.ids_eq i (Nat.le_of_lt hi);rw[<-hids]at g5;obtain⟨x,go,hex,q2,q3,hop1,hop2⟩:∃x go,(execOp a.eval o).run P w = .ok (.value x) (eT w go)/\RV (dj w G (.obj (ids i))) (ua o (ids i)) x/\Inv (eT w go) (dj w G (.obj (ids i))) (Ss m)/\(∀y,o.op ≠ .move y)/\(∀ty y,o.op ≠ .load ty y):=by
   cases gn with
   |var hop g2 g3 g4=>
    obtain⟨x,w',q1,q2,q3,go,q4⟩:=OO (P:=P) (SP:=λ _ _=>True) (n0:=0) hR.inv g2 g3 g4 p1 (by rw[p2];exact g5);subst q4;exact⟨x,go,by simp[execOp,hop,q1],by simpa only[ua,hop]using q2,q3,by simp[hop],by simp[hop]⟩
   |box hop hgu hq hb g3 g4=>
    rename_i t q sz cs fl;have hqv:vals.getD q .u=(vs 0).getD q .u:=hR.cur q 0 (Nat.zero_le _) (λ j hj=>absurd hj (Nat.not_lt_zero _)) (λ j _ ⟨e,he,hd⟩=>absurd hd (hq e (abQ he)));obtain⟨x,w',q1,q2,q3,go,q4⟩:=TT (P:=P) (t:=t) hR.inv (by rw[<-hqv];exact hR.fr q) hb g3 g4 p1 (by rw[p2];exact g5);subst q4;exact⟨x,go,by rw[Array.getD_eq_getD_getElem?]at q1;simp[execOp,hop,Act.eval,q1],by simpa only[ua,hop]using q2,q3,by simp[hop],by simp[hop]⟩
  unfold Oper.wp;rw[hex];have hS0:S0.length<=(Ss m).length:=by have:=h.len m hR.m_le;have:=h.len1;omega
  have hext:Ext w0 G0 S0 (eT w go) (dj w G (.obj (ids i))) (Ss m):=by refine hR.ext.trans' (S1':=oR S0.length (Ss m)) (Ext.push_obj hR.inv (n0:=S0.length) (by omega) _ (fQ hS0) (λ id hid=>(kG hS0 hid).symm) hS0) (by rw[fQ hS0];exact aa4 _) (λ id hid=>kG hS0 hid)
  refine hK _ _ _ _ _ (advance h hR hlen hr (x:=x) (m':=m) (by rw[hrr];exact q2) q3 hext (nu hR.inv _) hR.m_le e3 e4 (uP hR.tok (λ q' sz v ht=>ht.push hR.inv) (λ d hd=>h.dst_free hr.at_ hne hR.m_le hd)) (λ j o' ho' ha' hn=>?_) (λ y _ e=>absurd e (hop1 _)) (λ ty q id off _ e=>absurd e (hop2 _ _)) (λ id off _ b hb=>cell?_of_heap (ef (hR.inv.tk _ _ hb)) off));obtain⟨r1,r2⟩:=hR.ph j o' ho' ha' (λ e=>hn (.inl e));refine⟨λ b hb=>?_,r2⟩;by_cases e:b=w.heap.size
  ·simp only[dj,aaR e]at hb;injection hb with hb;injection hb with hb
   have hj:=(abE.1 ho').1;have hidj:=h.ids_eq j (Nat.le_of_lt hj);have hij:i≠j:=λ e=>hn (.inr e.symm);rcases abn i j with hlt|hge
   ·have h3:=ss hr.at_;rw[aaR ha]at h3;have h4:=wU (ops:=opsA.toList) (show i+1<=j by omega);omega
   ·have h3:=ss ho';rw[aaR ha']at h3;have h4:=wU (ops:=opsA.toList) (show j+1<=i by omega);omega
  ·simp only[dj,aaN e]at hb;exact r1 b hb
 |pure ha hg hne hp=>
  rcases Fy hfr hp with⟨hw,hp⟩|⟨hw,hv,hgs⟩
  rotate_left
  ·rw[aaN (by rw[hw];simp)];exact skip hv rfl hgs
  rw[aaR hw];left;have hpm:fA P vals (Ss m) o=some v:=by
   rw[Ik hsame];by_cases hrd:reads P o=true
   ·by_cases he:cls P (fls 0) opsA.toList o=3
    ·rw[<-(T5 h hR hr he).1];exact hp
    ·have h1:cls P (fls 0) opsA.toList o=1:=by
      cases hd:o.dst with
      |none=>unfold cls;simp[ha,hne,hrd,hd]
      |some d=>
       have hx:kU (fls 0) opsA.toList d=false:=by
        cases hm:kU (fls 0) opsA.toList d with
        |false=>rfl
        |true=>exact absurd (rO ha hd hm) he
       unfold cls;simp[ha,hne,hrd,hd,hx]
     rw[Qg h hR.closed hr hR.m_le hR.pre1 hR.pre2 h1];exact hp
   ·rw[FB (by simpa using hrd)];exact hp
  have hload:∀{x:Value} {w':World},(execOp a.eval o).run P w = .ok (.value x) w'->∀ty q id off,o.guard=none->o.op = .load ty (.tmp q)->cq P ty=some 1->mP P ty=some false->(vs i).getD q .u = .p id off->∃b,G.own b=some (.obj id)/\w.cell? ⟨b,off,none⟩=some x:=by
   intro x w' hrun ty q id off _ hop hsz hag hq;have hql:q∈looks opsA.toList o:=js (by rw[hop];simp[Op.operands]);have hra:=hfr q hql;rw[hq]at hra;simp only[RV]at hra;obtain⟨b,hb,hva⟩:=hra;have hv:gQ false 1 (Ss m) (.p id off)=some v:=by
    have hvq:vals.getD q .u = .p id off:=by rw[hlooks q hql];exact hq
    unfold fA at hpm;simp only[hop,hag,hsz,ev,hvq]at hpm;exact hpm
   obtain⟨y,hy⟩:=GZ hR.inv hv hb;refine⟨b,hb,?_⟩;simp only[execOp,hop,Act.eval]at hrun;rw[hva]at hrun
   cases hl:(Instr.loadAt ty (.pointer (some ⟨b,off,none⟩))).run P w with
   |ok x' w''=>
    rw[Sem.run_bind,hl]at hrun;simp at hrun;rw[hy,zK hag hy hl,hrun.1]
   |halt e w''=>
    rw[Sem.run_bind,hl]at hrun;simp at hrun
  have hmove:∀{x:Value} {w':World},(execOp a.eval o).run P w = .ok (.value x) w'->∀y,o.guard=none->o.op = .move y->x=a.eval y:=by intro x w' hrun y _ hop;simp[execOp,hop]at hrun;exact hrun.1.symm
  by_cases he:cls P (fls 0) opsA.toList o=3
  ·obtain⟨e1,e2,e3,e4⟩:=T5 h hR hr he;refine Nt (aK:=aK) (k:=k) (r:=r) (i:=i) (ops:=opsA.toList) hR.inv hR.fr (hR.tok.sub e2) hne hpm _ _ λ x w' hx=>?_;obtain⟨hrun,hcell,G',hE⟩:=hx;have hSm:Ss (i+1)=Ss m:=hSS.trans e1;exact hK _ _ _ _ _ (advance h hR hlen hr (x:=x) (m':=i+1) (by rw[hrr];exact hE.rv) (by rw[hSm];exact hE.inv) (by rw[hSm];exact hR.ext.trans hE.ext) hE.ext.le hi e3 e4 (by rw[hfl1];exact hE.tok) (sZ hR h (by rw[hSm];exact hE.ext)) (hmove hrun) (hload hrun) (λ id off _ b hb=>hcell id off b hb))
  ·obtain⟨e3,e4⟩:=Qq hR hr he;refine Ii hR.inv hR.fr hpm _ _ λ x w' hx=>?_;obtain⟨hrun,hcell,G',q1,q2,q3,q4⟩:=hx;exact hK _ _ _ _ _ (advance h hR hlen hr (x:=x) (m':=m) (by rw[hrr];exact q1) q2 (hR.ext.trans q3) q3.le hR.m_le e3 e4 (uP hR.tok q4 (λ d hd=>h.dst_free hr.at_ he hR.m_le hd)) (sZ hR h q3) (hmove hrun) (hload hrun) (λ id off _ b hb=>hcell id off b hb))
 |eff ha hg hef hp=>
  rcases Ci hfr hp with⟨hw,hp⟩|⟨hw,hv,hS,hgs⟩
  rotate_left
  ·rw[aaN (by rw[hw];simp)];exact skip hv hS hgs
  rw[aaR hw];left;have he:cls P (fls 0) opsA.toList o=3:=by unfold cls;simp[ha,hef]
  obtain⟨e1,e2,e3,e4⟩:=T5 h hR hr he;have hall:∀j,L j->early (gZ opsA.toList []) true i j=true:=by
   intro j hL;have hji:j≠i:=λ e=>hr.not (e▸hL);unfold early;rcases abn j i with hlt|hge
   ·simp[hlt,hji]
   ·have hb:((gZ opsA.toList []).getD j 0).testBit i=false:=by
     cases hb:((gZ opsA.toList []).getD j 0).testBit i with
     |false=>rfl
     |true=>
      cases hoj:opsA.toList[j]? with
      |none=>
       have:(gZ opsA.toList []).getD j 0=0:=by
        rw[abG,abN]
        ·rfl
        ·rw[mf];simp;exact Array.getElem?_eq_none_iff.1 (by rw[<-Array.getElem?_toList];exact hoj)
       rw[this]at hb;simp at hb
      |some oj=>exact absurd (j6 hR.closed j oj hoj (hR.closed j oj hoj hL) i hb) hr.not
    rw[hb];simp[hji]
  have hso:=abu.1 h.steal (o,i) (List.mem_zipIdx_iff_getElem?.2 hr.at_);simp only at hso;have hst:OI aK w G a vals opsA.toList o k r i:=by
   intro c x hop hcal hx
   cases hargs:c.args.toList with
   |nil=>rw[hargs]at hx;simp at hx
   |cons x' rest=>
    rw[hargs]at hx;simp at hx;subst hx;refine⟨λ happ q hq=>?_,λ happ q id off hq hva=>?_⟩
    ·unfold tK at hso;simp only[hop,hcal,happ,hargs,hq]at hso;split at hso;rotate_left
     ·simp at hso
     rename_i t q' hq';injection hq' with hq';subst hq'
     rw[Bool.or_eq_true,Bool.and_eq_true]at hso;rcases hso with hso|⟨s1,s2⟩
     ·simp only[beq_iff_eq]at hso;subst hso;exact .inr rfl
     obtain⟨e,he1,he2⟩:=List.any_eq_true.1 s1;obtain⟨je,hje⟩:=List.mem_iff_getElem?.1 he1;have hlt:je<i:=by have:=(abE.1 hje).1;simp at this;omega
     rw[abP hlt]at hje;have hed:e.dst=some t:=by simpa using he2
     have htl:t∈looks opsA.toList o:=js (by rw[hop];simp only[Op.operands,Call.operands,hcal];simp;rw[<-Array.mem_toList_iff,hargs];simp);have hLe:=(qy h hR.closed hr htl).1 je hlt ⟨e,hje,hed⟩;have hall2:∀j e,opsA.toList[j]?=some e->(early (gZ opsA.toList []) true i j=true->e.dst≠some q)/\(e.dst=some t->e.guard=none/\e.op = .move (.tmp q)):=by
      intro j e hj;have:=abu.1 s2 (e,j) (List.mem_zipIdx_iff_getElem?.2 hj);simp only[Bool.and_eq_true,Bool.or_eq_true,Bool.not_eq_true',bne_iff_ne,ne_eq]at this;refine⟨λ h1 h2=>?_,λ h1=>?_⟩
      ·rcases this.1 with h|h
       ·rw[h1]at h;cases h
       ·exact h h2
      ·rcases this.2 with h|⟨h2,h3⟩
       ·exact absurd h1 h
       ·refine⟨by simpa using h2,?_⟩
        split at h3
        ·rename_i q' hop';simp at h3;subst h3;exact hop'
        ·simp at h3
     have hq0:∀j,Wr opsA.toList j q->¬L j:=λ j ⟨e,hj,hd⟩ hL=>(hall2 j e hj).1 (hall j hL) hd;rcases abn t a0.tmps.size with hts|hts
     ·right;simp only[Act.eval];rw[hR.c2 t q hts (λ j o hj hd=>(hall2 j o hj).2 hd) ⟨je,⟨e,hje,hed⟩,hLe⟩ hq0];exact(hR.c1 q hq0).symm
     ·left;simp only[Act.eval];rw[Array.getD_eq_getD_getElem?,Array.getElem?_eq_none (by rw[hR.sz];exact hts)];rfl
    ·unfold tK at hso;simp only[hop,hcal,happ,hargs,hq]at hso;split at hso;rotate_left
     ·simp at hso
     rename_i t q' hq';injection hq' with hq';subst hq'
     split at hso;rotate_left
     ·simp at hso
     rename_i id' off' hqv;simp only[Bool.and_eq_true,decide_eq_true_eq]at hso;obtain⟨⟨s0,s1⟩,s2⟩:=hso;obtain⟨e,he1,he2⟩:=List.any_eq_true.1 s1;obtain⟨je,hje⟩:=List.mem_iff_getElem?.1 he1;have hlt:je<i:=by have:=(abE.1 hje).1;simp at this;omega
     rw[abP hlt]at hje;have hed:e.dst=some t:=by simpa using he2
     have htl:t∈looks opsA.toList o:=js (by rw[hop];simp only[Op.operands,Call.operands,hcal];simp;rw[<-Array.mem_toList_iff,hargs];simp);have hLe:=(qy h hR.closed hr htl).1 je hlt ⟨e,hje,hed⟩;have hall2:∀j e,opsA.toList[j]?=some e->(early (gZ opsA.toList []) true i j=true->gM e=true->gf P (vs opsA.toList.length) id' off' 1 e=true/\steady opsA.toList e j=true)/\(e.dst=some t->steady opsA.toList e j=true/\e.guard=none/\∃ty,e.op = .load ty (.tmp q)/\cq P ty=some 1/\mP P ty=some false):=by
      intro j e hj;have:=abu.1 s2 (e,j) (List.mem_zipIdx_iff_getElem?.2 hj);simp only[Bool.and_eq_true,Bool.or_eq_true,Bool.not_eq_true',bne_iff_ne,ne_eq]at this;refine⟨λ h1 h2=>?_,λ h1=>?_⟩
      ·rcases this.1 with h|h
       ·rw[h1,h2]at h;simp at h
       ·exact h
      ·rcases this.2 with h|⟨⟨h2,h3⟩,h4⟩
       ·exact absurd h1 h
       ·refine⟨h2,by simpa using h3,?_⟩
        split at h4
        ·rename_i ty q' hop';simp at h4;obtain⟨⟨h5,h6⟩,h7⟩:=h4;subst h5;exact⟨ty,hop',h6,h7⟩
        ·simp at h4
     obtain⟨c1,c2,ty,c3,c4,c5⟩:=(hall2 je e hje).2 hed;have hql:q∈looks opsA.toList e:=js (by rw[c3];simp[Op.operands]);have hqi:vals.getD q .u=(vs i).getD q .u:=by
      refine hR.cur q i (Nat.le_of_lt hi) (λ j hj hw=>?_) (λ j hj hw=>absurd hw (fU c1 hql j (by omega)));have hjl:j<je:=by
       rcases abn j je with h' | h'
       ·exact h'
       ·exact absurd hw (fU c1 hql j h')
      obtain⟨ej,hej,hdj⟩:=hw;have hrd:=(jh h.draw hje).2.2.2.2 j ej hjl hej;have hb:((gZ opsA.toList []).getD je 0).testBit j=true:=by
       unfold ic at hrd;rw[Bool.or_eq_true]at hrd;rcases hrd with h' | h'
       ·exact h'
       ·rw[Bool.and_eq_true]at h';exact absurd hql ((apart_spec h'.1).1 q hdj).1
      exact j6 hR.closed je e hje (hR.closed je e hje hLe) j hb
     have hqn:(vs opsA.toList.length).getD q .u=(vs i).getD q .u:=h.vs_same _ (Nat.le_of_lt hi) (aa4 _) λ j h1 _=>fU c1 hql j (by omega);have:(V.p id off) = .p id' off':=by rw[<-hva,hqi,<-hqn,hqv]
     injection this with e5 e6;subst e5;subst e6
     have hH:Hold P aK k r opsA.toList S0.length (vs opsA.toList.length) i t q id off:=⟨s0,hqv,⟨je,e,hlt,hje,hed⟩,λ j e hj=>(hall2 j e hj).1,λ j e hj=>(hall2 j e hj).2⟩
     rcases abn t a0.tmps.size with hts|hts
     ·right;obtain⟨b,hb,hcell⟩:=hR.c4 i t q id off hH hr.not hts ⟨je,⟨e,hje,hed⟩,hLe⟩;exact⟨b,hR.ext.obj _ _ hb,by rw[hR.c3 i t q id off hH hr.not b hb];exact hcell⟩
     ·left;simp only[Act.eval];rw[Array.getD_eq_getD_getElem?,Array.getElem?_eq_none (by rw[hR.sz];exact hts)];rfl
  have hq3:∀c x q,o.op = .call c->c.callee = .builtin .append->aK.app k r i=3->c.args.toList.head?=some x->lB opsA.toList x=some q->vals.getD q .u=(vs i).getD q .u:=by
   intro c x q hop hcal happ hx hq
   cases hargs:c.args.toList with
   |nil=>rw[hargs]at hx;simp at hx
   |cons x' rest=>
    rw[hargs]at hx;simp at hx;subst hx;unfold tK at hso;simp only[hop,hcal,happ,hargs,hq]at hso;split at hso;rotate_left
    ·simp at hso
    rename_i t q' hq';injection hq' with hq';subst hq'
    split at hso;rotate_left
    ·simp at hso
    rename_i id' off' hqv;simp only[Bool.and_eq_true,decide_eq_true_eq]at hso;obtain⟨⟨s0,s1⟩,s2⟩:=hso;obtain⟨e,he1,he2⟩:=List.any_eq_true.1 s1;obtain⟨je,hje⟩:=List.mem_iff_getElem?.1 he1;have hlt:je<i:=by have:=(abE.1 hje).1;simp at this;omega
    rw[abP hlt]at hje;have hed:e.dst=some t:=by simpa using he2
    have htl:t∈looks opsA.toList o:=js (by rw[hop];simp only[Op.operands,Call.operands,hcal];simp;rw[<-Array.mem_toList_iff,hargs];simp);have hLe:=(qy h hR.closed hr htl).1 je hlt ⟨e,hje,hed⟩;have hcopy:steady opsA.toList e je=true/\∃ty,e.op = .load ty (.tmp q):=by
     have:=abu.1 s2 (e,je) (List.mem_zipIdx_iff_getElem?.2 hje);simp only[Bool.and_eq_true,Bool.or_eq_true,Bool.not_eq_true',bne_iff_ne,ne_eq]at this;rcases this.2 with h|⟨⟨h2,h3⟩,h4⟩
     ·exact absurd hed h
     ·refine⟨h2,?_⟩;split at h4
      ·rename_i ty q' hop';simp at h4;obtain⟨⟨h5,h6⟩,h7⟩:=h4;subst h5;exact⟨ty,hop'⟩
      ·simp at h4
    obtain⟨c1,ty,c3⟩:=hcopy;have hql:q∈looks opsA.toList e:=js (by rw[c3];simp[Op.operands]);refine hR.cur q i (Nat.le_of_lt hi) (λ j hj hw=>?_) (λ j hj hw=>absurd hw (fU c1 hql j (by omega)));have hjl:j<je:=by
     rcases abn j je with h' | h'
     ·exact h'
     ·exact absurd hw (fU c1 hql j h')
    obtain⟨ej,hej,hdj⟩:=hw;have hrd:=(jh h.draw hje).2.2.2.2 j ej hjl hej;have hb:((gZ opsA.toList []).getD je 0).testBit j=true:=by
     unfold ic at hrd;rw[Bool.or_eq_true]at hrd;rcases hrd with h' | h'
     ·exact h'
     ·rw[Bool.and_eq_true]at h';exact absurd hql ((apart_spec h'.1).1 q hdj).1
    exact j6 hR.closed je e hje (hR.closed je e hje hLe) j hb
  have hp':aD f (gU P aK k r i opsA.toList vals (fls i) (Ss m) o)=some (v,T):=by rw[D1 hsame hq3,<-e1];exact hp
  have hdoes:GU P o a w λ x w'=>∃G',EffR P aK w G (Ss m) a k r i opsA.toList vals (fls i) o v T x w' G':=by
   by_cases hc:∃c fv,o.op = .call c/\c.callee = .value fv
   ·obtain⟨c,fv,hop,hcal⟩:=hc;exact Ml hF hR.inv hR.fr (hR.tok.sub e2) hop hcal hp'
   ·obtain⟨x,w',G',hE⟩:=Xe hR.inv hR.fr (hR.tok.sub e2) hg hst (λ c fv hop hcal=>hc ⟨c,fv,hop,hcal⟩) hp';exact hE.does
  refine hdoes _ _ λ x w' hx=>?_;obtain⟨G',hE⟩:=hx;have hnm:∀y,o.op ≠ .move y:=λ y e=>by simp[gM,e]at hef
  have hnl:∀t y,o.op ≠ .load t y:=λ t y e=>by simp[gM,e]at hef
  exact hK _ _ _ _ _ (advance h hR hlen hr (x:=x) (m':=i+1) (by rw[hrr];exact hE.rv) (by rw[hSS];exact hE.inv) (by rw[hSS];exact hR.ext.trans hE.ext) hE.ext.le hi e3 e4 (by rw[hfl1];exact hE.tok) (sZ hR h (by rw[hSS];exact hE.ext)) (λ y _ e=>absurd e (hnm y)) (λ ty q id off _ e=>absurd e (hnl ty _)) (λ id off hs b hb=>hE.sp id off (hs hef) b hb))
end
end
section
variable {P : Program} {aK : Pol}
section
variable {f : Task → Option Out} {k r : Nat} {opsA : Array Oper} {S0 S1 : List Ob} {vs : Nat → List V} {fls : Nat → Fl} {Ss : Nat → List Ob} {ids : Nat → Nat} {rv : Nat → V}
variable {w0 : World} {G0 : Sg} {a0 : Act} {Q : Exit → Act → World → Prop}
theorem RI.start(h:Rg P aK f k r opsA.toList S0 S1 vs fls Ss ids rv)(hI:Inv w0 G0 S1)(hE:Ext w0 G0 S0 w0 G0 S1)(hold:∀b id,G0.own b=some (.obj id)->id<S0.length)(hf:Fr G0 (vs 0) a0)(htk:iO w0 G0 a0 (fls 0)){L:Nat->Prop}(hL:∀j,j<opsA.toList.length->¬L j):
  RI P aK k r opsA.toList S0 S1 vs fls Ss ids w0 G0 a0 L a0 w0 G0 (vs 0) 0:=by
 have lt_of:∀{j:Nat} {o:Oper},opsA.toList[j]?=some o->j<opsA.toList.length:=λ h=>(abE.1 h).1;refine⟨by rw[h.s0];exact hI,by rw[h.s0];exact hE,hf,rfl,rfl,rfl,λ t b hb h1 _=>?_,Nat.zero_le _,λ j hj=>absurd hj (Nat.not_lt_zero _),λ j _ ⟨o,ho,_⟩=>hL j (lt_of ho),htk,λ j o ho ha _=>?_,λ j o ho hLj=>absurd hLj (hL j (lt_of ho)),λ _ _=>rfl,λ t q _ _ ⟨j,⟨o,ho,_⟩,hLj⟩ _=>absurd hLj (hL j (lt_of ho)),λ _ _ _ _ _ _ _ _ _=>rfl,λ i t q id off _ _ _ ⟨j,⟨o,ho,_⟩,hLj⟩=>absurd hLj (hL j (lt_of ho))⟩
 ·exact(h.vs_same b (Nat.zero_le _) hb λ j _ hj hw=>hL j (by omega) (h1 j hj hw)).symm
 ·have:=h.ids_eq j (Nat.le_of_lt (lt_of ho));exact⟨λ b hb=>by have:=hold b _ hb;omega,by rw[h.s0]⟩
theorem RI.finish(h:Rg P aK f k r opsA.toList S0 S1 vs fls Ss ids rv){L:Nat->Prop}{a:Act}{w:World}{G:Sg}{vals:List V}{m:Nat}(hR:RI P aK k r opsA.toList S0 S1 vs fls Ss ids w0 G0 a0 L a w G vals m)(hL:∀j,j<opsA.toList.length->L j):
  Inv w G (Ss opsA.toList.length)/\Ext w0 G0 S0 w G (Ss opsA.toList.length)/\Fr G (vs opsA.toList.length) a/\iO w G a (fls opsA.toList.length):=by
 obtain⟨p1,p2⟩:=h.run_same opsA.toList.length hR.m_le (aa4 _) λ j h1 h2 hE=>hR.pre2 j h1 hE (hL j h2);refine⟨by rw[p1];exact hR.inv,by rw[p1];exact hR.ext,λ t=>?_,hR.tok.sub p2⟩;rw[<-hR.cur t _ (aa4 _) (λ j hj _=>hL j hj) (λ j hj ⟨o,ho,_⟩=>by have:=(abE.1 ho).1;omega)];exact hR.fr t
theorem PR{l:Array Bool}{i j:Nat}(hi:i<l.size):(l.setIfInBounds i true).getD j true=true↔l.getD j true=true\/j=i:=by
 simp only[Array.getD_eq_getD_getElem?,Array.getElem?_setIfInBounds];by_cases e:i=j
 ·subst e;simp[hi]
 ·simp[e,Ne.symm e]
theorem WJ(hF:lA P f)(h:Rg P aK f k r opsA.toList S0 S1 vs fls Ss ids rv)(hlen:(vs 0).length<=a0.tmps.size)
  (hQ:∀a w G,Inv w G (Ss opsA.toList.length)->Ext w0 G0 S0 w G (Ss opsA.toList.length)->Fr G (vs opsA.toList.length) a->iO w G a (fls opsA.toList.length)->a.tmps.size=a0.tmps.size->a.defers=a0.defers->Q .normal a w):
  ∀(fuel:Nat) (listed:Array Bool) (a:Act) (w:World) (G:Sg) (vals:List V) (m:Nat),listed.size=opsA.size->listed.toList.count false<=fuel->RI P aK k r opsA.toList S0 S1 vs fls Ss ids w0 G0 a0 (λ j=>listed.getD j true=true) a w G vals m->wpAny P .any opsA Q fuel listed a w:=by
 have hmin:∀(listed:Array Bool),listed.size=opsA.size->Region.ready .any opsA listed=[]->∀j,j<opsA.toList.length->listed.getD j true=true:=by
  intro listed hs hr j
  induction j using Nat.strongRecOn with
  |_ j ih=>
   intro hj
   cases hl:listed.getD j true with
   |true=>rfl
   |false=>
    have ho:opsA.toList[j]?=some opsA.toList[j]:=abl hj;have:j∈Region.ready .any opsA listed:=mem_ready.2 ⟨hl,opsA.toList[j],by rw[<-Array.getElem?_toList];exact ho,λ e he hb=>by
     have hlt:=(jh h.draw ho).1 e (by simpa using he) hb;have:=ih e.on hlt (by omega);rw[Array.getD_eq_getD_getElem?]at this⊢;rw[Array.getElem?_eq_getElem (show e.on<listed.size by rw[hs];simp at hj;omega)]at this⊢
     simpa using this⟩
    rw[hr]at this;cases this
 intro fuel
 induction fuel with
 |zero=>
  intro listed a w G vals m hs hc hR;have hall:∀j,j<opsA.toList.length->listed.getD j true=true:=by
   intro j hj
   cases hl:listed.getD j true with
   |true=>rfl
   |false=>
    have:false∈listed.toList:=by
     rw[Array.getD_eq_getD_getElem?]at hl
     cases hx:listed[j]? with
     |none=>rw[hx]at hl;simp at hl
     |some y=>rw[hx]at hl;simp at hl;subst hl;exact abQ (by rw[Array.getElem?_toList];exact hx)
    have:=List.count_pos_iff.2 this;omega
  obtain⟨p1,p2,p3,p4⟩:=hR.finish h hall;refine⟨?_,hQ a w G p1 p2 p3 p4 hR.sz hR.df⟩
  cases hr:Region.ready .any opsA listed with
  |nil=>rfl
  |cons i is=>
   have hm:i∈Region.ready .any opsA listed:=by rw[hr];simp
   obtain⟨g1,o,g2,_⟩:=mem_ready.1 hm;have:=hall i (by have:=(Array.getElem?_eq_some_iff.1 g2).1;simpa using this);rw[g1]at this;cases this
 |succ fuel ih=>
  intro listed a w G vals m hs hc hR;refine⟨λ hr=>?_,λ i hm=>?_⟩
  ·obtain⟨p1,p2,p3,p4⟩:=hR.finish h (hmin listed hs hr);exact hQ a w G p1 p2 p3 p4 hR.sz hR.df
  ·obtain⟨g1,o,g2,g3⟩:=mem_ready.1 hm;have hi:=(Array.getElem?_eq_some_iff.1 g2).1;refine Kq hF h hR hlen (i:=i) (o:=o) ⟨by rw[Array.getElem?_toList];exact g2,by simp[g1],λ e he hb=>?_⟩ λ a' w' G' vals' m' hR'=>?_
   ·have:=g3 e (by simpa using he) hb
    rw[Array.getD_eq_getD_getElem?]at this⊢
    cases hx:listed[e.on]? with
    |none=>rw[hx]at this;simp at this
    |some y=>rw[hx]at this;simpa using this
   ·refine ih _ _ _ G' vals' m' (by simp[hs]) ?_ ?_
    ·have hl:listed.toList[i]?=some false:=by
      rw[Array.getD_eq_getD_getElem?]at g1;rw[Array.getElem?_toList]
      cases hx:listed[i]? with
      |none=>rw[hx]at g1;simp at g1
      |some y=>rw[hx]at g1;simp at g1;rw[g1]
     obtain⟨hlt,hli⟩:=abE.1 hl;rw[Array.toList_setIfInBounds,List.count_set hlt,hli,aaR (by rfl),aaN (by decide)];omega
    ·have:(λ j=>(listed.setIfInBounds i true).getD j true=true)=sf (λ j=>listed.getD j true=true) i:=by funext j;exact propext (PR (by omega))
     rw[this];exact hR'
theorem U9(hF:lA P f)(h:Rg P aK f k r opsA.toList S0 S1 vs fls Ss ids rv)(hlen:(vs 0).length<=a0.tmps.size)
  (hQ:∀a w G,Inv w G (Ss opsA.toList.length)->Ext w0 G0 S0 w G (Ss opsA.toList.length)->Fr G (vs opsA.toList.length) a->iO w G a (fls opsA.toList.length)->a.tmps.size=a0.tmps.size->a.defers=a0.defers->Q .normal a w):
  ∀(n i:Nat) (a:Act) (w:World) (G:Sg) (vals:List V) (m:Nat),i+n=opsA.size->RI P aK k r opsA.toList S0 S1 vs fls Ss ids w0 G0 a0 (λ j=>j<i) a w G vals m->wpOps P opsA Q (List.range' i n) a w:=by
 intro n
 induction n with
 |zero=>
  intro i a w G vals m hi hR;obtain⟨p1,p2,p3,p4⟩:=hR.finish h (λ j hj=>by simp at hj;omega);exact hQ a w G p1 p2 p3 p4 hR.sz hR.df
 |succ n ih=>
  intro i a w G vals m hi hR;rw[List.range'_succ,wpOps_cons];have ho:opsA.toList[i]?=some (opsA.toList[i]'(by simp;omega)):=abl _;refine Kq hF h hR hlen (i:=i) ⟨ho,by omega,λ e he hb=>(jh h.draw ho).1 e he hb⟩ λ a' w' G' vals' m' hR'=>?_;refine ih (i+1) a' w' G' vals' m' (by omega) ?_;have:(λ j=>j<i+1)=sf (λ j=>j<i) i:=by funext j;apply propext;unfold sf;omega
  rw[this];exact hR'
end
end
section
variable {P : Program} {aK : Pol} {f : Task → Option Out}
theorem NB(hF:lA P f)(hmix:P.follows .mixedOrders=true){k r id:Nat}{opsA:Array Oper}{draw:Bool}{vals:List V}{fl:Fl}{S:List Ob}{K:List V->Fl->List Ob->Tr}{res:Out}{a:Act}{w:World}{G:Sg}
  (h:aD f (lF P aK k r opsA.toList draw vals fl S K)=some res) (hI:Inv w G S) (hf:Fr G vals a) (htk:iO w G a fl) (hlen:vals.length<=a.tmps.size):
  ∃vals' fl' S',aD f (K vals' fl' S')=some res/\vals'.length=vals.length/\∀Q:Exit->Act->World->Prop,(∀a' w' G',Inv w' G' S'->Ext w G S w' G' S'->Fr G' vals' a'->iO w' G' a' fl'->a'.tmps.size=a.tmps.size->a'.defers=a.defers->Q .normal a' w')->(Code.region id opsA draw).wp P Q a w:=by
 unfold lF at h;rw[bE]at h;obtain⟨S1,hS1,h⟩:=abd.1 h;obtain⟨vs,fls,Ss,ids,rv,e1,e2,e3,e4,htr,hk⟩:=Gp _ _ _ _ _ _ h;rw[bS]at hk;split at hk;rotate_left
 ·simp at hk
 rename_i hdraw;rw[bS]at hk;split at hk;rotate_left
 ·simp at hk
 rename_i hsteal;have hold:∀{w:World},Inv w G S->∀b id,G.own b=some (.obj id)->id<S.length:=λ hI b id hb=>by
  obtain⟨_,o,_,ho,_⟩:=hI.ob _ _ hb;exact dR ho
 have hRg:∀{w:World},Inv w G S->Rg P aK f k r opsA.toList S S1 vs fls Ss ids rv:=λ hI=>by
  obtain⟨_,_,p3,p4,p5⟩:=ll _ _ _ _ hS1 hI;exact⟨htr,e3,e4,p3,p4,by rw[e1];exact p5,by rw[e2];exact hdraw,hsteal⟩
 refine⟨vs opsA.toList.length,fls opsA.toList.length,Ss opsA.toList.length,hk,?_,λ Q hQ=>?_⟩
 ·rw[(hRg hI).vlen _ (aa4 _),e1]
 ·cases draw with
  |true=>
   have hI1:Inv { w with drawn:=w.drawn+1 } G S:=⟨hI.fz,hI.ob,hI.inj,hI.tk,hI.cl,hI.rf,hI.tb⟩
   have hE1:Ext w G S { w with drawn:=w.drawn+1 } G S:=⟨rfl,rfl,rfl,aa4 _,λ _ _ _ h=>h,λ _ _ h=>h,λ _ _ _=>⟨rfl,rfl,λ _=>rfl⟩,λ _ _ h _=>h,λ _ _ _=>rfl,aa4 _⟩
   obtain⟨p1,p2,_⟩:=ll _ _ _ _ hS1 hI1;refine wp_region_any hmix ?_;refine WJ hF (hRg hI1) (by rw[e1];exact hlen) (a0:=a) (λ a' w' G' q1 q2 q3 q4 q5 q6=>hQ a' w' G' q1 (hE1.trans q2) q3 q4 q5 q6) opsA.size (Array.replicate opsA.size false) a _ G (vs 0) 0 (by simp) (by
    refine abI List.count_le_length ?_
    simp) ?_
   refine RI.start (hRg hI1) p1 p2 (hold hI1) (by rw[e1];exact hf) (by rw[e2];exact htk) λ j hj=>?_;simp at hj;simp[Array.getD_eq_getD_getElem?,hj]
  |false=>
   obtain⟨p1,p2,_⟩:=ll _ _ _ _ hS1 hI;refine wp_region ?_;rw[List.range_eq_range'];refine U9 hF (hRg hI) (by rw[e1];exact hlen) (a0:=a) (λ a' w' G' q1 q2 q3 q4 q5 q6=>hQ a' w' G' q1 q2 q3 q4 q5 q6) opsA.size 0 a w G (vs 0) 0 (by simp) ?_;exact RI.start (hRg hI) p1 p2 (hold hI) (by rw[e1];exact hf) (by rw[e2];exact htk) λ j hj=>by simp
end
def vV(n0:Nat)(kp:Option Nat):Loc->Option Loc
 | .obj id=>if id<n0 then some (.obj id)else if kp=some id then some (.obj n0)else none
 | .cell id off=>if id<n0 then some (.cell id off)else if kp=some id then some (.cell n0 off)else none
 | .slot _=>none
 | .ext=>some .ext
def nO(G:Sg)(n0:Nat)(kp:Option Nat):Sg:=⟨G.F,λ b=>(G.own b).bind (vV n0 kp)⟩
theorem jC(n0:Nat)(S:List Ob):nP n0 S=oR n0 S:=rfl
section
variable {P : Program} {w : World} {G : Sg} {S : List Ob} {n0 : Nat}
theorem wb{kp:Option Nat}{b i:Nat}(h:(nO G n0 kp).own b=some (.obj i)):(i<n0/\G.own b=some (.obj i))\/(i=n0/\∃id,kp=some id/\n0<=id/\G.own b=some (.obj id)):=by
 simp only[nO]at h;obtain⟨ℓ,h1,h2⟩:=abd.1 h
 cases ℓ with
 |obj id=>
  simp only[vV]at h2;split at h2
  ·injection h2 with h2;injection h2 with h2;subst h2;exact .inl ⟨by assumption,h1⟩
  ·split at h2
   ·injection h2 with h2;injection h2 with h2;exact .inr ⟨h2.symm,id,by assumption,by omega,h1⟩
   ·cases h2
 |cell id off=>
  simp only[vV]at h2;split at h2
  ·cases h2
  ·split at h2<;>cases h2
 |slot q=>simp[vV]at h2
 |ext=>simp[vV]at h2
theorem Pc{kp:Option Nat}{b i off:Nat}(h:(nO G n0 kp).own b=some (.cell i off)):(i<n0/\G.own b=some (.cell i off))\/(i=n0/\∃id,kp=some id/\n0<=id/\G.own b=some (.cell id off)):=by
 simp only[nO]at h;obtain⟨ℓ,h1,h2⟩:=abd.1 h
 cases ℓ with
 |obj id=>
  simp only[vV]at h2;split at h2
  ·cases h2
  ·split at h2<;>cases h2
 |cell id off'=>
  simp only[vV]at h2;split at h2
  ·injection h2 with h2;injection h2 with h2 h3;subst h2;subst h3;exact .inl ⟨by assumption,h1⟩
  ·split at h2
   ·injection h2 with h2;injection h2 with h2 h3;subst h3;exact .inr ⟨h2.symm,id,by assumption,by omega,h1⟩
   ·cases h2
 |slot q=>simp[vV]at h2
 |ext=>simp[vV]at h2
theorem wX{kp:Option Nat}{b i:Nat}(hi:i<n0)(h:G.own b=some (.obj i)):(nO G n0 kp).own b=some (.obj i):=by simp only[nO,h,Option.bind_some,vV,aaR hi]
theorem wW{b i:Nat}(hi:n0<=i)(h:G.own b=some (.obj i)):(nO G n0 (some i)).own b=some (.obj n0):=by simp only[nO,h,Option.bind_some,vV];rw[aaN (by omega),aaR trivial]
theorem Pd{kp:Option Nat}{b:Nat}{ℓ:Loc}(h:(nO G n0 kp).own b=some ℓ):∃ℓ',G.own b=some ℓ':=by simp only[nO]at h;obtain⟨ℓ',h1,_⟩:=abd.1 h;exact⟨ℓ',h1⟩
theorem G7{kp:Option Nat}{T:List Ob}{wi:World}{Gi:Sg}{Si:List Ob}(hI:Inv w G S)(hE:Ext wi Gi Si w G S)(hIi:Inv wi Gi Si)(hn:Si.length=n0)(hn0:n0<=S.length)
  (hT:kp=none/\T=nP n0 S\/∃id cs fl,kp=some id/\n0<=id/\bV S id=some (.cells cs fl)/\bI n0 cs=true/\T = .cells cs fl::nP n0 S):
  Inv w (nO G n0 kp) T/\Ext wi Gi Si w (nO G n0 kp) T/\(∀x v,cj n0 x=true->RV G x v->RV (nO G n0 kp) x v):=by
 have hlift:∀x v,cj n0 x=true->RV G x v->RV (nO G n0 kp) x v:=λ x v hr hx=>
  RV.lift (A:=G) (B:=nO G n0 kp) (n:=n0) (λ _ _ _ h=>h) (λ b i hi h=>wX hi h) x v hr hx
 have hcl:=fQ (S:=S) hn0;have glo:∀id,id<n0->bV T id=bV S id:=by
  intro id hid;rcases hT with⟨_,rfl⟩|⟨_,_,_,_,_,_,_,rfl⟩
  ·exact kG hn0 hid
  ·rw[dG (by rw[jC,hcl];exact hid)];exact kG hn0 hid
 have hTl:n0<=T.length:=by
  rcases hT with⟨_,rfl⟩|⟨_,_,_,_,_,_,_,rfl⟩
  ·rw[jC,hcl];exact aa4 _
  ·simp[jC,hcl]
 refine⟨⟨hI.fz,λ b i h=>?_,λ b b' i h h'=>?_,λ b ℓ h=>?_,λ b i off h=>?_,λ i cs fl h=>?_,hI.tb_of λ c _ h0=>⟨rfl,by simp[nO,h0]⟩⟩,⟨hE.os,hE.tape,hE.output,hE.size,hE.F,λ b i h=>?_,λ b hb h=>?_,λ b i h hi=>?_,λ i hi hno=>?_,by rw[hn];exact hTl⟩,hlift⟩
 ·have flags:∀{id:Nat} {cs:List V} {fl:List (Nat×Nat)} {go:Obj},kQ w G id (.cells cs fl) go->bI n0 cs=true->(id<n0/\i=id\/n0<=id/\kp=some id/\i=n0)->kQ w (nO G n0 kp) i (.cells cs fl) go:=by
   intro id cs fl go h4 hrf hcase;cases go<;>simp only[kQ]at h4⊢;obtain⟨p1,p2,p3⟩:=h4;refine⟨p1,λ o c hc=>?_,λ o sz hm=>?_⟩
   ·obtain⟨v,hv,hr,hf,ho⟩:=p2 o c hc;exact⟨v,hv,hlift c v (dQ.1 hrf c (abQ hc)) hr,hf,ho⟩
   ·refine(p3 o sz hm).map λ v hv ht=>⟨v,hv,?_⟩
    rcases ht with ht|⟨blk,hb,ht⟩
    ·exact .inl ht
    ·refine .inr ⟨blk,?_,ht⟩;simp only[nO,hb,Option.bind_some,vV];rcases hcase with⟨e1,e2⟩|⟨e1,e2,e3⟩
     ·rw[aaR e1,e2]
     ·rw[aaN (by omega),aaR e2,e3]
  rcases wb h with⟨h1,h2⟩|⟨h1,id,h2,h3,h4⟩
  ·obtain⟨q1,o,go,q2,q3,q4⟩:=hI.ob _ _ h2;refine⟨q1,o,go,by rw[glo _ h1];exact q2,q3,?_⟩
   cases o with
   |cells cs fl=>exact flags q4 (dH (by omega) _ (hI.rf _ _ _ q2)) (.inl ⟨h1,rfl⟩)
   |dead=>cases go<;>simp only[kQ]at q4
  ·obtain⟨q1,o,go,q2,q3,q4⟩:=hI.ob _ _ h4;rcases hT with⟨e,_⟩|⟨id',cs,fl,e1,e2,e3,e4,rfl⟩
   ·rw[e]at h2;cases h2
   ·rw[h2]at e1;injection e1 with e1;subst e1
    rw[e3]at q2;injection q2 with q2;subst q2
    refine⟨q1,_,go,?_,q3,flags q4 e4 (.inr ⟨h3,h2,h1⟩)⟩;subst h1;simp only[bV,jC,hcl,if_true]
 ·rcases wb h with⟨h1,h2⟩|⟨h1,id,h2,h3,h4⟩<;>rcases wb h' with⟨k1,k2⟩|⟨k1,id',k2,k3,k4⟩
  ·exact hI.inj _ _ _ h2 k2
  ·omega
  ·omega
  ·rw[h2]at k2;injection k2 with k2;subst k2;exact hI.inj _ _ _ h4 k4
 ·obtain⟨ℓ',h'⟩:=Pd h;exact hI.tk _ _ h'
 ·rcases Pc h with⟨h1,h2⟩|⟨h1,id,h2,h3,h4⟩
  ·omega
  ·rcases hT with⟨e,_⟩|⟨id',cs,fl,e1,e2,e3,e4,rfl⟩
   ·rw[e]at h2;cases h2
   ·simp[jC,hcl];omega
 ·rcases abn i n0 with hi|hi
  ·rw[glo _ hi]at h;exact hI.rf _ _ _ h
  ·have hlt:=dR h;rcases hT with⟨e,rfl⟩|⟨id',cs',fl',e1,e2,e3,e4,rfl⟩
   ·rw[jC,hcl]at hlt;omega
   ·have:i=n0:=by simp[jC,hcl]at hlt;omega
    subst this;simp only[bV,jC,hcl,if_true]at h;injection h with h;injection h with h _;subst h
    exact dH (by omega) _ e4
 ·have hi:i<n0:=by obtain⟨_,o,_,ho,_⟩:=hIi.ob _ _ h;have:=dR ho;omega
  exact wX hi (hE.obj _ _ h)
 ·obtain⟨k1,k2,k3⟩:=hE.keep b hb h;refine⟨?_,k2,k3⟩;simp only[nO];rcases h with h|h
  ·rw[k1,h];rfl
  ·rw[k1,h];rfl
 ·rcases wb h with⟨h1,h2⟩|⟨h1,_⟩
  ·exact hE.newo _ _ h2 hi
  ·omega
 ·rw[glo _ (by omega)];exact hE.ph i hi hno
theorem JZ{v:V}{x:Value}{o:Out}{wi:World}{Gi:Sg}{Si:List Ob}(hI:Inv w G S)(hE:Ext wi Gi Si w G S)(hIi:Inv wi Gi Si)(hn:Si.length=n0)(hv:RV G v x)(h:zJ n0 v S=some o):
  ∃G',RV G' o.1 x/\Inv w G' o.2/\Ext wi Gi Si w G' o.2:=by
 have hn0:n0<=S.length:=by rw[<-hn];exact hE.len
 obtain⟨p1,p2,p3⟩:=G7 (kp:=none) hI hE hIi hn hn0 (.inl ⟨rfl,rfl⟩);have plain:cj n0 v=true->o=(v,nP n0 S)->∃G',RV G' o.1 x/\Inv w G' o.2/\Ext wi Gi Si w G' o.2:=by intro hr e;subst e;exact⟨_,p3 _ _ hr hv,p1,p2⟩
 unfold zJ at h;split at h
 ·injection h with h;exact plain rfl h.symm
 ·injection h with h;exact plain rfl h.symm
 ·split at h
  ·rename_i hr;injection h with h
   exact plain (by simp only[cj];exact dH (Nat.zero_le _) _ hr) h.symm
  ·simp at h
 ·rename_i id off;split at h
  ·rename_i hid;split at h
   ·rename_i cs fl hob;split at h
    ·rename_i hc;injection h with h;subst h
     obtain⟨q1,q2,q3⟩:=G7 (kp:=some id) hI hE hIi hn hn0 (.inr ⟨id,cs,fl,rfl,hid,hob,hc.1,rfl⟩);refine⟨_,?_,q1,q2⟩;simp only[RV]at hv⊢;obtain⟨blk,h1,h2⟩:=hv;exact⟨blk,wW hid h1,h2⟩
    ·simp at h
   ·simp at h
  ·injection h with h;exact plain (by simp[cj];omega) h.symm
 ·rename_i id off len;split at h
  ·rename_i hid;split at h
   ·rename_i cs fl hob;split at h
    ·rename_i hc;injection h with h;subst h
     obtain⟨q1,q2,q3⟩:=G7 (kp:=some id) hI hE hIi hn hn0 (.inr ⟨id,cs,fl,rfl,hid,hob,hc.1,rfl⟩);refine⟨_,?_,q1,q2⟩;simp only[RV]at hv⊢;obtain⟨A,C,h1,h2,h3⟩:=hv;exact⟨A,C,h1,h2,λ hp=>by obtain⟨blk,h4,h5⟩:=h3 hp;exact⟨blk,wW hid h4,h5⟩⟩
    ·simp at h
   ·simp at h
  ·injection h with h;exact plain (by simp[cj];omega) h.symm
 ·simp at h
def tO(m:Nat):Loc->Option Loc
 | .obj id=>if id<m then some (.obj id)else none
 | .cell id off=>if id<m then some (.cell id off)else none
 |ℓ=>some ℓ
def mz(G:Sg)(m:Nat):Sg:=⟨G.F,λ b=>(G.own b).bind (tO m)⟩
theorem yW{m b:Nat}{ℓ:Loc}(h:(mz G m).own b=some ℓ):G.own b=some ℓ/\tO m ℓ=some ℓ:=by
 simp only[mz]at h;obtain⟨ℓ',h1,h2⟩:=abd.1 h;have:ℓ'=ℓ:=by
  cases ℓ'<;>simp only[tO]at h2
  ·split at h2
   ·injection h2
   ·cases h2
  ·split at h2
   ·injection h2
   ·cases h2
  ·injection h2
  ·injection h2
 subst this;exact⟨h1,h2⟩
theorem wG{m b:Nat}{ℓ:Loc}(h:G.own b=some ℓ)(hm:tO m ℓ=some ℓ):(mz G m).own b=some ℓ:=by simp only[mz,h,Option.bind_some,hm]
theorem VS{m:Nat}{wi:World}{Gi:Sg}{Si:List Ob}(hI:Inv w G S)(hE:Ext wi Gi Si w G S)(hIi:Inv wi Gi Si)(hn:Si.length<=m)(hm:m<=S.length):
  Inv w (mz G m) (nP m S)/\Ext wi Gi Si w (mz G m) (nP m S)/\(∀x v,cj m x=true->RV G x v->RV (mz G m) x v)/\∀q z v,gq w G (.slot q) z v->gq w (mz G m) (.slot q) z v:=by
 have hcl:=fQ (S:=S) hm;have glo:∀id,id<m->bV (nP m S) id=bV S id:=λ id hid=>kG hm hid;have obj:∀{b i:Nat},(mz G m).own b=some (.obj i)->i<m/\G.own b=some (.obj i):=by
  intro b i h;obtain⟨h1,h2⟩:=yW h;simp only[tO]at h2;split at h2
  ·exact⟨by assumption,h1⟩
  ·cases h2
 have cell:∀{b i o:Nat},(mz G m).own b=some (.cell i o)->i<m/\G.own b=some (.cell i o):=by
  intro b i o h;obtain⟨h1,h2⟩:=yW h;simp only[tO]at h2;split at h2
  ·exact⟨by assumption,h1⟩
  ·cases h2
 have hlift:∀x v,cj m x=true->RV G x v->RV (mz G m) x v:=λ x v hr hx=>
  RV.lift (A:=G) (B:=mz G m) (n:=m) (λ _ _ _ h=>h) (λ b i hi h=>wG h (by simp[tO,hi])) x v hr hx
 refine⟨⟨hI.fz,λ b i h=>?_,λ b b' i h h'=>hI.inj _ _ _ (obj h).2 (obj h').2,λ b ℓ h=>hI.tk _ _ (yW h).1,λ b i off h=>?_,λ i cs fl h=>?_,hI.tb_of λ c _ h0=>⟨rfl,by simp[mz,h0]⟩⟩,⟨hE.os,hE.tape,hE.output,hE.size,hE.F,λ b i h=>?_,λ b hb h=>?_,λ b i h hi=>hE.newo _ _ (obj h).2 hi,λ i hi hno=>?_,by rw[jC,hcl];exact hn⟩,hlift,λ q z v ht=>?_⟩
 ·obtain⟨h1,h2⟩:=obj h;obtain⟨q1,o,go,q2,q3,q4⟩:=hI.ob _ _ h2;refine⟨q1,o,go,by rw[glo _ h1];exact q2,q3,?_⟩
  cases o with
  |cells cs fl=>
   have hrf:=hI.rf _ _ _ q2;cases go<;>simp only[kQ]at q4⊢;obtain⟨p1,p2,p3⟩:=q4;refine⟨p1,λ o c hc=>?_,λ o sz hm=>?_⟩
   ·obtain⟨v,hv,hr,hf,ho⟩:=p2 o c hc;exact⟨v,hv,hlift c v (pX (by omega) c (dQ.1 hrf c (abQ hc))) hr,hf,ho⟩
   ·refine(p3 o sz hm).map λ v hv ht=>⟨v,hv,?_⟩
    rcases ht with ht|⟨blk,hb,ht⟩
    ·exact .inl ht
    ·exact .inr ⟨blk,wG hb (by simp[tO,h1]),ht⟩
  |dead=>cases go<;>simp only[kQ]at q4
 ·have:=(cell h).1;rw[jC,hcl];exact this
 ·have hlt:=dR h;rw[jC,hcl]at hlt;rw[glo _ hlt]at h;exact hI.rf _ _ _ h
 ·have hi:i<m:=by obtain⟨_,o,_,ho,_⟩:=hIi.ob _ _ h;have:=dR ho;omega
  exact wG (hE.obj _ _ h) (by simp[tO,hi])
 ·obtain⟨k1,k2,k3⟩:=hE.keep b hb h;refine⟨?_,k2,k3⟩;simp only[mz];rcases h with h|h
  ·rw[k1,h];rfl
  ·rw[k1,h];rfl
 ·rw[glo _ (by omega)];exact hE.ph _ hi hno
 ·rcases ht with ht|⟨blk,hb,ht⟩
  ·exact .inl ht
  ·exact .inr ⟨blk,wG hb rfl,ht⟩
end
section
variable {P : Program} {w : World} {G : Sg} {S : List Ob} {n0 : Nat}
def QV(tmps:Array Value):ResultVar->Sem Value
 | .tmp t=>pure (tmps.getD t undef)
 | .cell ad t=>do loadVar t (<-asAddr (tmps.getD ad undef))
theorem UT(hI:Inv w G S){vals:List V}{a:Act}(hf:Fr G vals a){rv:ResultVar}{v:V}(h:US P vals S rv=some v):
  ∃x,(QV a.tmps rv).run P w = .ok x w/\RV G v x:=by
 cases rv with
 |tmp t=>
  simp only[US,Option.some.injEq]at h;subst h;exact⟨_,rfl,hf t⟩
 |cell ad t=>
  simp only[US,bind,abd]at h;obtain⟨g,hg,n,hn,h⟩:=h;obtain⟨x,hx,hr⟩:=JH hI hn hg (hf ad) h;refine⟨x,?_,hr⟩;have hra:=hf ad;have hp:∃A,a.tmps.getD ad undef = .pointer (some A):=by
   unfold gQ at h;split at h
   ·rename_i e;rw[e]at hra;simp only[RV]at hra;obtain⟨_,_,_,e,_⟩:=hra;exact⟨_,e⟩
   ·rename_i e;rw[e]at hra;simp only[RV]at hra;obtain⟨_,_,e⟩:=hra;exact⟨_,e⟩
   ·simp at h
  obtain⟨A,hA⟩:=hp;rw[hA]at hx;simp only[QV,hA];simpa[Instr.loadAt,Instr.sureAddr,asAddr]using hx
theorem FI(hI:Inv w G S){vals:List V}{a:Act}(hf:Fr G vals a):∀{rs:List ResultVar} {vs:List V},FH P vals S rs=some vs->
  ∃xs:List Value,(rs.mapM (QV a.tmps)).run P w = .ok xs w/\eY G vs xs
 | [],vs,h=>by simp[FH]at h;subst h;exact⟨[],rfl,by simp only[eY]⟩
 |r::rs,vs,h=>by
  simp only[FH]at h;split at h
  ·rename_i v vs' hv hvs;injection h with h;subst h
   obtain⟨x,hx,hr⟩:=UT (P:=P) hI hf hv;obtain⟨xs,hxs,hrs⟩:=FI hI hf hvs;refine⟨x::xs,?_,by rw[wM];exact⟨hr,hrs⟩⟩;rw[List.mapM_cons];simp only[Sem.run_bind,hx,Result.andThen_ok,hxs,Sem.run_pure]
  ·simp at h
theorem Xm{f:Task->Option Out}{fn:Func}{vals:List V}{a:Act}{o:Out}{wi:World}{Gi:Sg}{Si:List Ob}(hI:Inv w G S)(hE:Ext wi Gi Si w G S)(hIi:Inv wi Gi Si)(hn:Si.length=n0)(hf:Fr G vals a)(h:aD f (fin P fn n0 vals S)=some o):
  ∃x,(results fn a.tmps).run P w = .ok x w/\∃G',RV G' o.1 x/\Inv w G' o.2/\Ext wi Gi Si w G' o.2:=by
 unfold fin at h;rw[bE]at h;obtain⟨vs,hvs,h⟩:=abd.1 h;obtain⟨xs,hxs,hrs⟩:=FI (P:=P) hI hf hvs;have hm:(fn.results.mapM (QV a.tmps)).run P w = .ok xs.toArray w:=by rw[<-Array.toArray_toList (xs:=fn.results),List.mapM_toArray];simp[hxs]
 have hres:(results fn a.tmps).run P w = .ok (if h:xs.toArray.size=1 then xs.toArray[0]else .tuple xs.toArray) w:=by
  have:results fn a.tmps=(do let vs <-fn.results.mapM (QV a.tmps);pure (if h:vs.size=1 then vs[0]else .tuple vs)):=by unfold results;congr 1
  rw[this];simp only[Sem.run_bind,hm,Result.andThen_ok,Sem.run_pure]
 split at h
 ·rename_i v;rw[bE]at h;obtain⟨o',ho',h⟩:=abd.1 h;simp only[aD,Option.some.injEq]at h;subst h;simp only[eY]at hrs;obtain⟨x,r,rfl,hr,rfl⟩:=hrs;exact⟨x,by rw[hres];simp,JZ hI hE hIi hn hr ho'⟩
 ·rename_i hno;rw[bE]at h;obtain⟨o',ho',h⟩:=abd.1 h;simp only[aD,Option.some.injEq]at h;subst h;have hl:=eY.length hrs;have hne:xs.length≠1:=by intro e;rw[hl]at e;obtain⟨v,hv⟩:=List.length_eq_one_iff.1 e;exact hno v hv
  refine⟨.tuple xs.toArray,by rw[hres];simp[hne],JZ hI hE hIi hn (v := .t vs) ?_ ho'⟩;simp only[RV];exact⟨_,rfl,by simpa using hrs⟩
end
section
variable {P : Program} {aK : Pol}
def oF(P:Program)(k:Nat)(items:List Item)(a:Act)(w:World)(R:Value->World->Prop):Prop:=
 ∀(b:Frame) (cs:List Frame),b.fn=k->b.kind = .normal->∃x w' fr,R x w'/\Steps P (lone (b.at a items) cs w) (lone fr cs w')/\fr.fn=k/\fr.leaving P w' (.returned x)
theorem oF.step{k:Nat}{items items':List Item}{a:Act}{w:World}{R:Value->World->Prop}(h:oF P k items' a w R)(hs:∀(b:Frame) (cs:List Frame),Go.step P (lone (b.at a items) cs w) = .next (lone (b.at a items') cs w)):oF P k items a w R:=by intro b cs hb hk;obtain⟨x,w',fr,h1,h2,h3,h4⟩:=h b cs hb hk;exact⟨x,w',fr,h1,.head (hs b cs) h2,h3,h4⟩
structure St (w0:World) (G0:Sg) (S0:List Ob) (nt:Nat) (vals:List V) (fl:Fl) (S:List Ob) (a:Act) (w:World) (G:Sg):Prop where
 inv:Inv w G S
 ext:Ext w0 G0 S0 w G S
 fr:Fr G vals a
 tok:iO w G a fl
 vl:vals.length<=nt
 sz:a.tmps.size=nt
 df:a.defers=[]
 ns:∀b q,G0.own b≠some (.slot q)
def Yn(w0:World)(G0:Sg)(S0:List Ob)(o:Out)(x:Value)(w':World):Prop:=∃G',RV G' o.1 x/\Inv w' G' o.2/\Ext w0 G0 S0 w' G' o.2
def WH(P:Program)(k:Nat)(items:List Item)(e:Option Nat)(a:Act)(w:World)(R:Value->World->Prop):Prop:=
 match e with
 |none=>oF P k items a w R
 |some id=>∃items',exitTo id items=some items'/\oF P k items' a w R
variable {f : Task → Option Out} {k n0 nt : Nat} {w0 : World} {G0 : Sg} {S0 : List Ob}
def OB(P:Program)(f:Task->Option Out)(k nt:Nat)(w0:World)(G0:Sg)(S0:List Ob)(items:List Item)(K:jA):Prop:=
 ∀e vals fl S res,aD f (K e vals fl S)=some res->∀a w G,St w0 G0 S0 nt vals fl S a w G->WH P k items e a w (Yn w0 G0 S0 res)
def da:List Bool->Code->List Item->Option (Code×List Item)
 | [],c,rest=>some (c,rest)
 |false::p,.seq a b,rest=>da p a (.code b::rest)
 |true::p,.seq _ b,rest=>da p b rest
 |false::p,.cond _ a _,rest=>da p a rest
 |true::p,.cond _ _ b,rest=>da p b rest
 |false::p,.block id c,rest=>da p c (.inBlock id::rest)
 |false::p,.loop c,rest=>da p c (.inLoop c::rest)
 |_,_,_=>none
def wF(c:Code)(rest:List Item):List Item:=
 match c with
 | .loop b => .code b :: .inLoop b::rest
 |c => .code c::rest
theorem eP{c x:Code}{rest r1:List Item}:∀{p:List Bool} {q:List Bool},da p c rest=some (x,r1)->da (p++q) c rest=da q x r1:=by
 intro p
 induction p generalizing c rest with
 |nil=>intro q h;simp[da]at h;obtain⟨rfl,rfl⟩:=h;rfl
 |cons t p ih=>
  intro q h;cases t<;>cases c<;>simp only[da]at h<;>first|(simp at h;done)|(simp only[List.cons_append,da];exact ih h)
def oW(P:Program)(f:Task->Option Out)(k nt:Nat)(c0:Code):Prop:=
 ∀n0 path vals fl S o,f (.at_ k n0 path vals fl S)=some o->∀w0 G0 S0,Inv w0 G0 S0->S0.length=n0->∀a w G,St w0 G0 S0 nt vals fl S a w G->∀x rest,da path.reverse c0 []=some (x,rest)->oF P k (wF x rest) a w (Yn w0 G0 S0 o)
theorem zY(live:List Nat):∀(vals:List V) (i t:Nat),(cw live i vals).getD t .u=vals.getD t .u\/(cw live i vals).getD t .u = .u
 | [],i,t => .inl rfl
 |v::vals,i,0=>by
  simp only[cw];split
  ·exact .inl rfl
  ·exact .inr rfl
 |v::vals,i,t+1=>by
  have:=zY live vals (i+1) t;simpa[cw]using this
theorem zZ(live:List Nat):∀(vals:List V) (i:Nat),(cw live i vals).length=vals.length
 | [],i=>rfl
 |v::vals,i=>by simp[cw,zZ live vals (i+1)]
theorem St.clear{vals:List V}{fl:Fl}{S:List Ob}{a:Act}{w:World}{G:Sg}(h:St w0 G0 S0 nt vals fl S a w G)(live:List Nat)(hI0:Inv w0 G0 S0)(hn:S0.length=n0):∃G',St w0 G0 S0 nt (cw live 0 vals) (rn live fl) (trimS n0 (cw live 0 vals) S) a w G':=by
 have hfr:Fr G (cw live 0 vals) a:=λ t=>by
  rcases zY live vals 0 t with e|e
  ·rw[e];exact h.fr t
  ·rw[e];simp only[RV]
 have htk:iO w G a (rn live fl):=h.tok.sub λ x hx=>(List.mem_filter.1 hx).1;have hvl:(cw live 0 vals).length<=nt:=by rw[zZ];exact h.vl
 rcases abn S.length (max n0 (mG (cw live 0 vals)))with hm|hm
 ·have:trimS n0 (cw live 0 vals) S=S:=by unfold trimS nP;rw[Nat.sub_eq_zero_of_le (by omega)];rfl
  rw[this];exact⟨G,h.inv,h.ext,hfr,htk,hvl,h.sz,h.df,h.ns⟩
 ·obtain⟨t1,t2,t3,t4⟩:=VS h.inv h.ext hI0 (by rw[hn];exact Nat.le_max_left _ _) hm
  refine⟨_,t1,t2,λ t=>?_,λ q z hz=>?_,hvl,h.sz,h.df,h.ns⟩
  ·refine t3 _ _ ?_ (hfr t);rcases abn t (cw live 0 vals).length with ht|ht
   ·refine dQ.1 ((iH _ _).2 (Nat.le_max_right n0 (mG (cw live 0 vals)))) _ ?_;rw[abG,abl ht];exact List.getElem_mem ht
   ·rw[abG,abN ht];rfl
  ·rcases htk q z hz with e|e
   ·exact .inl e
   ·exact .inr (t4 _ _ _ e)
theorem wj{c0 x:Code}{rest:List Item}(hA:oW P f k nt c0)(hI0:Inv w0 G0 S0)(hn:S0.length=n0){path:List Bool}(hit:da path.reverse c0 []=some (x,rest)){vals:List V}{fl:Fl}{S:List Ob}{res:Out}(h:aD f (Cx aK k n0 path vals fl S)=some res){a:Act}{w:World}{G:Sg}(hs:St w0 G0 S0 nt vals fl S a w G):
  oF P k (wF x rest) a w (Yn w0 G0 S0 res):=by
 unfold Cx at h;split at h
 ·rename_i live _;rw[fP]at h;obtain⟨o,ho,h⟩:=abd.1 h;simp only[aD,Option.some.injEq]at h;subst h;obtain⟨G',hs'⟩:=hs.clear live hI0 hn;exact hA _ _ _ _ _ _ ho w0 G0 S0 hI0 hn a w G' hs' x rest hit
 ·rw[fP]at h;obtain⟨o,ho,h⟩:=abd.1 h;simp only[aD,Option.some.injEq]at h;subst h;exact hA _ _ _ _ _ _ ho w0 G0 S0 hI0 hn a w G hs x rest hit
end
section
variable {P : Program} {aK : Pol}
variable {f : Task → Option Out} {k n0 nt : Nat} {w0 : World} {G0 : Sg} {S0 : List Ob}
theorem AU{fn:Func}(hfn:P.funcs[k]?=some fn){items:List Item}{a:Act}{w:World}{G:Sg}{vals:List V}{fl:Fl}{S:List Ob}{res:Out}(hI0:Inv w0 G0 S0)(hn:S0.length=n0)(hs:St w0 G0 S0 nt vals fl S a w G)(h:aD f (fin P fn n0 vals S)=some res)
  (hstep:∀(b:Frame) (cs:List Frame),Go.step P (lone (b.at a items) cs w) = .next (lone { b.at a items with mode := .returning } cs w)):oF P k items a w (Yn w0 G0 S0 res):=by
 obtain⟨x,hx,hA⟩:=Xm hs.inv hs.ext hI0 hn hs.fr h;intro b cs hb hk;refine⟨x,w,{ b.at a items with mode := .returning },hA,.one (hstep b cs),hb,rfl,hs.df,hk,fn,?_,hx⟩;rw[<-hfn,<-hb];rfl
theorem vz{c:Code}{rest:List Item}{a:Act}{w:World}{R:Value->World->Prop}(h:oF P k (wF c rest) a w R):oF P k (.code c::rest) a w R:=by
 cases c with
 |loop b=>exact h.step λ b cs=>step_loop
 |_=>exact h
theorem fN(hF:lA P f)(hmix:P.follows .mixedOrders=true){fn:Func}(hfn:P.funcs[k]?=some fn){c0:Code}(hA:oW P f k nt c0)(hI0:Inv w0 G0 S0)(hn:S0.length=n0){res:Out}:∀(c:Code) (path:List Bool) (K:jA) (rest:List Item),da path.reverse c0 []=some (c,rest)->OB P f k nt w0 G0 S0 rest K->
  ∀(vals:List V) (fl:Fl) (S:List Ob),aD f (evalCode P aK fn k n0 c path K vals fl S)=some res->∀(a:Act) (w:World) (G:Sg),St w0 G0 S0 nt vals fl S a w G->oF P k (.code c::rest) a w (Yn w0 G0 S0 res)
 | .skip,path,K,rest,hit,hK,vals,fl,S,h,a,w,G,hs=>by
  simp only[evalCode]at h;exact(hK none vals fl S res h a w G hs).step λ b cs=>step_skip
 | .region r ops draw,path,K,rest,hit,hK,vals,fl,S,h,a,w,G,hs=>by
  simp only[evalCode]at h;obtain⟨vals',fl',S',h1,h2,h3⟩:=NB (id:=r) hF hmix h hs.inv hs.fr hs.tok (by rw[hs.sz];exact hs.vl);have hw:=h3 (λ e a' w'=>e = .normal/\∃G',St w0 G0 S0 nt vals' fl' S' a' w' G') λ a' w' G' q1 q2 q3 q4 q5 q6=>⟨rfl,G',q1,hs.ext.trans q2,q3,q4,by rw[h2];exact hs.vl,by rw[q5];exact hs.sz,by rw[q6];exact hs.df,hs.ns⟩
  intro b cs hb hk;obtain⟨e,a',w',⟨rfl,G',hs'⟩,harr⟩:=hw b rest cs;obtain⟨x,w2,fr,g1,g2,g3,g4⟩:=hK none vals' fl' S' res h1 a' w' G' hs' b cs hb hk;exact⟨x,w2,fr,g1,Steps.trans harr g2,g3,g4⟩
 | .seq x y,path,K,rest,hit,hK,vals,fl,S,h,a,w,G,hs=>by
  simp only[evalCode]at h;have h1:da (false::path).reverse c0 []=some (x,.code y::rest):=by rw[List.reverse_cons,eP hit];rfl
  have h2:da (true::path).reverse c0 []=some (y,rest):=by rw[List.reverse_cons,eP hit];rfl
  refine(fN hF hmix hfn hA hI0 hn x (false::path) _ (.code y::rest) h1 ?_ vals fl S h a w G hs).step λ b cs=>step_seq;intro e vals1 fl1 S1 res1 he a1 w1 G1 hs1
  cases e with
  |some id=>
   obtain⟨items',g1,g2⟩:=hK (some id) vals1 fl1 S1 res1 he a1 w1 G1 hs1;exact⟨items',by simpa[exitTo]using g1,g2⟩
  |none=>
   simp only at he
   cases hcut:aK.cut k (true::path) with
   |some live=>
    rw[hcut]at he;have hgo:aD f (Cx aK k n0 (true::path) vals1 fl1 S1)=some res1:=by unfold Cx;rw[hcut];exact he
    exact vz (wj hA hI0 hn h2 hgo hs1)
   |none=>
    rw[hcut]at he;exact fN hF hmix hfn hA hI0 hn y (true::path) K rest h2 hK vals1 fl1 S1 he a1 w1 G1 hs1
 | .cond c x y,path,K,rest,hit,hK,vals,fl,S,h,a,w,G,hs=>by
  simp only[evalCode]at h;rw[bE]at h;obtain⟨v,hv,h⟩:=abd.1 h;have h1:da (false::path).reverse c0 []=some (x,rest):=by rw[List.reverse_cons,eP hit];rfl
  have h2:da (true::path).reverse c0 []=some (y,rest):=by rw[List.reverse_cons,eP hit];rfl
  have hr:=eh hs.fr hv;unfold ZW at h;split at h
  ·rename_i t;simp only[RV,RD]at hr
   cases t with
   |true=>
    simp only[if_true]at h;exact(fN hF hmix hfn hA hI0 hn x (false::path) K rest h1 hK vals fl S h a w G hs).step λ b cs=>by rw[step_cond hr];rfl
   |false=>
    simp only[Bool.false_eq_true,if_false]at h;exact(fN hF hmix hfn hA hI0 hn y (true::path) K rest h2 hK vals fl S h a w G hs).step λ b cs=>by rw[step_cond hr];rfl
  ·simp[aD]at h
 | .block id c,path,K,rest,hit,hK,vals,fl,S,h,a,w,G,hs=>by
  simp only[evalCode]at h;have h1:da (false::path).reverse c0 []=some (c,.inBlock id::rest):=by rw[List.reverse_cons,eP hit];rfl
  refine(fN hF hmix hfn hA hI0 hn c (false::path) _ (.inBlock id::rest) h1 ?_ vals fl S h a w G hs).step λ b cs=>step_block;intro e vals1 fl1 S1 res1 he a1 w1 G1 hs1;unfold mE at he
  cases e with
  |none=>exact(hK none vals1 fl1 S1 res1 he a1 w1 G1 hs1).step λ b cs=>step_inBlock
  |some id'=>
   simp only at he;by_cases e:id'=id
   ·subst e;rw[aaR rfl]at he;exact⟨rest,by simp[exitTo],hK none vals1 fl1 S1 res1 he a1 w1 G1 hs1⟩
   ·rw[aaN e]at he;obtain⟨items',g1,g2⟩:=hK (some id') vals1 fl1 S1 res1 he a1 w1 G1 hs1;exact⟨items',by simp[exitTo,Ne.symm e,g1],g2⟩
 | .loop c,path,K,rest,hit,hK,vals,fl,S,h,a,w,G,hs=>by
  simp only[evalCode]at h;exact(wj hA hI0 hn hit h hs).step λ b cs=>step_loop
 | .exit id,path,K,rest,hit,hK,vals,fl,S,h,a,w,G,hs=>by
  simp only[evalCode]at h;obtain⟨items',h1,h2⟩:=hK (some id) vals fl S res h a w G hs;exact h2.step λ b cs=>step_exit h1
 | .ret,path,K,rest,hit,hK,vals,fl,S,h,a,w,G,hs=>by
  simp only[evalCode]at h;exact AU hfn hI0 hn hs h λ b cs=>step_ret
 | .rangeFunc _ _ _ _,path,K,rest,hit,hK,vals,fl,S,h,a,w,G,hs=>by simp[evalCode,aD]at h
 | .scope _,path,K,rest,hit,hK,vals,fl,S,h,a,w,G,hs=>by simp[evalCode,aD]at h
 | .label _,path,K,rest,hit,hK,vals,fl,S,h,a,w,G,hs=>by simp[evalCode,aD]at h
 | .goto _,path,K,rest,hit,hK,vals,fl,S,h,a,w,G,hs=>by simp[evalCode,aD]at h
 | .refuse _,path,K,rest,hit,hK,vals,fl,S,h,a,w,G,hs=>by simp[evalCode,aD]at h
end
section
variable {P : Program} {aK : Pol}
variable {f : Task → Option Out} {k n0 nt : Nat} {w0 : World} {G0 : Sg} {S0 : List Ob}
theorem U0(hF:lA P f)(hmix:P.follows .mixedOrders=true){fn:Func}(hfn:P.funcs[k]?=some fn){c0:Code}(hA:oW P f k nt c0)(hI0:Inv w0 G0 S0)(hn:S0.length=n0){x y:Code}{path:List Bool}{K:jA}{rest:List Item}(hit:da path.reverse c0 []=some (.seq x y,rest))(hK:OB P f k nt w0 G0 S0 rest K):
  OB P f k nt w0 G0 S0 (.code y::rest) (Q5 P aK fn k n0 y path K):=by
 have h2:da (true::path).reverse c0 []=some (y,rest):=by rw[List.reverse_cons,eP hit];rfl
 intro e vals1 fl1 S1 res1 he a1 w1 G1 hs1;unfold Q5 at he
 cases e with
 |some id=>
  obtain⟨items',g1,g2⟩:=hK (some id) vals1 fl1 S1 res1 he a1 w1 G1 hs1;exact⟨items',by simpa[exitTo]using g1,g2⟩
 |none=>
  simp only at he
  cases hcut:aK.cut k (true::path) with
  |some live=>
   rw[hcut]at he;have hgo:aD f (Cx aK k n0 (true::path) vals1 fl1 S1)=some res1:=by unfold Cx;rw[hcut];exact he
   exact vz (wj hA hI0 hn h2 hgo hs1)
  |none=>
   rw[hcut]at he;exact fN hF hmix hfn hA hI0 hn y (true::path) K rest h2 hK vals1 fl1 S1 he a1 w1 G1 hs1
theorem Mh{id:Nat}{K:jA}{rest:List Item}(hK:OB P f k nt w0 G0 S0 rest K):OB P f k nt w0 G0 S0 (.inBlock id::rest) (mE id K):=by
 intro e vals1 fl1 S1 res1 he a1 w1 G1 hs1;unfold mE at he
 cases e with
 |none=>exact(hK none vals1 fl1 S1 res1 he a1 w1 G1 hs1).step λ b cs=>step_inBlock
 |some id'=>
  simp only at he;by_cases e:id'=id
  ·subst e;rw[aaR rfl]at he;exact⟨rest,by simp[exitTo],hK none vals1 fl1 S1 res1 he a1 w1 G1 hs1⟩
  ·rw[aaN e]at he;obtain⟨items',g1,g2⟩:=hK (some id') vals1 fl1 S1 res1 he a1 w1 G1 hs1;exact⟨items',by simp[exitTo,Ne.symm e,g1],g2⟩
theorem E0{c0:Code}(hA:oW P f k nt c0)(hI0:Inv w0 G0 S0)(hn:S0.length=n0){c:Code}{path:List Bool}{K:jA}{rest:List Item}(hit:da path.reverse c0 []=some (.loop c,rest))(hK:OB P f k nt w0 G0 S0 rest K):
  OB P f k nt w0 G0 S0 (.inLoop c::rest) (sN aK k n0 path K):=by
 intro e vals1 fl1 S1 res1 he a1 w1 G1 hs1;unfold sN at he
 cases e with
 |none=>exact(wj hA hI0 hn hit he hs1).step λ b cs=>step_inLoop
 |some id'=>
  obtain⟨items',g1,g2⟩:=hK (some id') vals1 fl1 S1 res1 he a1 w1 G1 hs1;exact⟨items',by simp[exitTo,g1],g2⟩
theorem M4(hF:lA P f)(hmix:P.follows .mixedOrders=true){fn:Func}(hfn:P.funcs[k]?=some fn){c0:Code}(hA:oW P f k nt c0)(hI0:Inv w0 G0 S0)(hn:S0.length=n0):∀(p:List Bool) (c:Code) (path:List Bool) (K:jA) (rest:List Item) (x:Code) (path':List Bool) (K':jA),
  da path.reverse c0 []=some (c,rest)->OB P f k nt w0 G0 S0 rest K->kf P aK fn k n0 p c path K=some (x,path',K')->path'=p.reverse++path/\∃rest',da path'.reverse c0 []=some (x,rest')/\OB P f k nt w0 G0 S0 rest' K':=by
 intro p
 induction p with
 |nil=>
  intro c path K rest x path' K' hit hK h;simp only[kf,Option.some.injEq,Prod.mk.injEq]at h;obtain⟨rfl,rfl,rfl⟩:=h;exact⟨rfl,rest,hit,hK⟩
 |cons t p ih=>
  intro c path K rest x path' K' hit hK h;have fin:∀{c':Code} {rest1:List Item} {K1:jA},da [t] c rest=some (c',rest1)->OB P f k nt w0 G0 S0 rest1 K1->kf P aK fn k n0 p c' (t::path) K1=some (x,path',K')->path'=(t::p).reverse++path/\∃rest',da path'.reverse c0 []=some (x,rest')/\OB P f k nt w0 G0 S0 rest' K':=by intro c' rest1 K1 h1 h2 h3;obtain⟨g1,g2⟩:=ih c' (t::path) K1 rest1 x path' K' (by rw[List.reverse_cons,eP hit];exact h1) h2 h3;exact⟨by rw[g1];simp,g2⟩
  cases t<;>cases c<;>simp only[kf]at h<;>first|(simp at h;done)|skip
  ·exact fin rfl (U0 hF hmix hfn hA hI0 hn hit hK) h
  ·exact fin rfl hK h
  ·exact fin rfl (Mh hK) h
  ·exact fin rfl (E0 hA hI0 hn hit hK) h
  ·exact fin rfl hK h
  ·exact fin rfl hK h
end
theorem NY{aK:Pol}{f:Task->Option Out}{k n0:Nat}{path:List Bool}{vals:List V}{fl:Fl}{S:List Ob}{K:Tr}{o:Out}(h:aD f (yS aK k n0 path vals fl S K)=some o):
  (∃d id f0 xs,vals.getD d .u = .d (.l f0 xs)/\n0=0/\(Kv fl d=true/\d<vals.length/\id<=S.length)/\xs.all xH=true/\((vals.set d .u).all (jk id)=true/\jy id S=true)/\f (.at_ k n0 path (vals.set d (.m id 0 xs.length)) [] (tM id xs S))=some o)\/aD f K=some o:=by
 unfold yS at h;split at h
 ·exact .inr h
 rename_i d id _;split at h
 ·rename_i x hx;split at h
  ·rename_i f0 xs;simp only[bS]at h;split at h;rotate_left
   ·simp at h
   rename_i h1;split at h;rotate_left
   ·simp at h
   rename_i h2;split at h;rotate_left
   ·simp at h
   rename_i h3;split at h;rotate_left
   ·simp at h
   rename_i h4;simp only[Bool.and_eq_true,decide_eq_true_eq,beq_iff_eq]at h1;rw[fP]at h;obtain⟨o',ho,h⟩:=abd.1 h;simp only[aD,Option.some.injEq]at h;subst h;exact .inl ⟨d,id,f0,xs,hx,h1.1.1.1,⟨h1.1.1.2,h1.1.2,h1.2⟩,h2,⟨h3,h4⟩,ho⟩
  ·simp[aD]at h
 ·exact .inr h
theorem yR{id:Nat}{xs:List D}{S:List Ob}(h:id<=S.length):bV (tM id xs S) id=some (.cells (xs.map .d) []):=by
 unfold tM;split
 ·rename_i e;subst e;simp[bV]
 ·exact dE (by omega)
theorem Gc{id:Nat}{xs:List D}{S:List Ob}{i:Nat}{o:Ob}(hne:i≠id)(h:bV S i=some o):bV (tM id xs S) i=some o:=by
 unfold tM;split
 ·rw[dG (dR h)];exact h
 ·rw[cJ hne];exact h
theorem NX{id:Nat}{xs:List D}{S:List Ob}{i:Nat}{o:Ob}(hne:i≠id)(h:bV (tM id xs S) i=some o):bV S i=some o:=by
 unfold tM at h;split at h
 ·rename_i e;simp only[bV]at h;rw[aaN (by omega)]at h;exact h
 ·rw[cJ hne]at h;exact h
theorem q9{id:Nat}:∀{S:List Ob} {i:Nat} {o:Ob},jy id S=true->bV S i=some o->i≠id->∃cs,o = .cells cs []/\cs.all (jk id)=true
 | [],i,o,_,h,_=>by simp[bV]at h
 |x::S,i,o,hs,h,hne=>by
  simp only[jy,Bool.and_eq_true]at hs;simp only[bV]at h;split at h
  ·rename_i e;injection h with h;subst h;subst e
   have h1:=hs.1;rw[aaN (Ne.symm hne)]at h1;split at h1
   ·exact⟨_,rfl,h1⟩
   ·cases h1
  ·exact q9 hs.2 h hne
section
variable {P : Program} {nt : Nat} {w0 : World} {G0 : Sg} {vals : List V} {fl : Fl} {S : List Ob} {a : Act} {w : World} {G : Sg}
theorem Va(hI0:Inv w0 G0 [])(hs:St w0 G0 [] nt vals fl S a w G){d id:Nat}{f0:Bool}{xs:List D}(hv:vals.getD d .u = .d (.l f0 xs))(h1:Kv fl d=true/\d<vals.length/\id<=S.length)(h2:xs.all xH=true)(h3:(vals.set d .u).all (jk id)=true/\jy id S=true):
  ∃G',St w0 G0 [] nt (vals.set d (.m id 0 xs.length)) [] (tM id xs S) a w G':=by
 obtain⟨hI,hE,hF,hT,hvl,hsz,hdf,hns⟩:=hs;obtain⟨ht,hd,hid⟩:=h1;obtain⟨hfl,hsf⟩:=h3;have hx:=hF d;rw[hv]at hx;simp only[RV,RD]at hx;obtain⟨A,n,c,sz,hxe,hn,hnc,_,hszd,hel⟩:=hx;obtain⟨B,hB1,hB2⟩:∃B:Option Nat,(xs≠[]->∃blk,B=some blk/\A=some ⟨blk,0,none⟩)/\∀blk,B=some blk->(G.own blk=some (.slot d)/\∃cs el fz,w.heap[blk]?=some (.cells cs el fz)/\c<=cs.size/\(∀o,¬(fz.1<=o/\o<fz.2))/\(∀o,n<=o->G.F blk o=none)/\bN G.F blk 0 xs):=by
  by_cases hx0:xs=[]
  ·exact⟨none,λ h=>absurd hx0 h,λ _ e=>by cases e⟩
  unfold Kv at ht;split at ht;rotate_left
  ·cases ht
  rename_i z hz;simp only[Bool.and_eq_true,decide_eq_true_eq]at ht;rcases hT d z (qE hz)with e|e
  ·rw[hxe]at e;simp[undef]at e
  ·rw[hxe]at e;rcases e with⟨a',n',e,hn0⟩|⟨blk,ho,off,n',c',cs,el,fz,e,hgo,q1,q2,q0,⟨_,q4⟩,q3⟩
   ·injection e with e1 e2 e3
    have hnl:1000000<=z:=by omega
    have:=hn0 hnl;exact absurd (List.length_eq_zero_iff.1 (by omega)) hx0
   ·injection e with e1 e2 e3;subst e2;subst e3
    obtain⟨rfl,hfz⟩:=q4 (by simp only[zM,decide_eq_true_eq];exact ht.1);rw[ht.2]at q2 q3;refine⟨some blk,λ _=>⟨blk,rfl,e1⟩,λ b e=>?_⟩;injection e with e;subst e
    obtain⟨b',o',e',hr⟩:=hel hx0;rw[e1]at e';injection e' with e';injection e' with e2 e3;subst e2;subst e3
    exact⟨ho,cs,el,fz,hgo,by omega,λ o=>by omega,λ o ho'=>(q3 o (by omega)).1,hr⟩
 let own':Nat->Option Loc:=λ b=>if some b=B then some (.obj id)else match G.own b with
  |some (.obj i)=>if i=id then none else some (.obj i)
  |some .ext=>some .ext
  |_=>none
 let F':Fz:=λ b o=>if some b=B then none else G.F b o
 have hobj:∀b i,own' b=some (.obj i)->(some b=B/\i=id)\/(some b≠B/\i≠id/\G.own b=some (.obj i)):=by
  intro b i h;simp only[own']at h;split at h
  ·rename_i e;injection h with h;injection h with h;exact .inl ⟨e,h.symm⟩
  ·rename_i e;split at h
   ·rename_i j hj;split at h
    ·cases h
    ·rename_i hne;injection h with h;injection h with h;subst h;exact .inr ⟨e,hne,hj⟩
   ·cases h
   ·cases h
 have hkeep:∀b i,i≠id->G.own b=some (.obj i)->own' b=some (.obj i):=by
  intro b i hne h;have hb:some b≠B:=λ e=>by have:=(hB2 b e.symm).1;rw[h]at this;cases this
  simp only[own',aaN hb,h,aaN hne]
 have hFs:∀b o v,F' b o=some v->G.F b o=some v:=by
  intro b o v h;simp only[F']at h;split at h
  ·cases h
  ·exact h
 have hFk:∀b o,some b≠B->F' b o=G.F b o:=λ b o h=>by simp only[F',aaN h]
 have hstr:∀b,some b=B->∀o v,G.F b o=some v->∃s,v = .string s:=by
  intro b e o v h;obtain⟨_,_,_,_,_,_,_,hno,hr⟩:=hB2 b e.symm;rcases abn o n with ho|ho
  ·have hlt:o<xs.length:=by omega
   have hsz1:sized xs 1:=λ y hy=>by
    have:=abu.1 h2 y hy;cases y<;>simp[xH]at this⊢<;>rfl
   have he:=bN.get hsz1 hr (abl hlt);have hst:=abu.1 h2 _ (List.getElem_mem hlt);generalize xs[o]=y at he hst;cases y<;>simp only[xH]at hst<;>try cases hst
   simp only[kP,RD,abv,Nat.mul_one]at he;obtain⟨v',e1,e2⟩:=he;rw[h]at e1;injection e1 with e1;subst e1;exact⟨_,e2⟩
  ·rw[hno o ho]at h;cases h
 have hlift:∀x v,jk id x=true->RV G x v->RV ⟨F',own'⟩ x v:=by
  intro x v hf hr
  cases x with
  |d y=>
   cases y with
   |l fu ys=>
    simp only[jk]at hf;simp only[RV,RD]at hr⊢;obtain⟨A1,n1,c1,sz1,e1,e2,e3,e4,e5,e6⟩:=hr;refine⟨A1,n1,c1,sz1,e1,e2,e3,e4,e5,λ hne=>?_⟩;obtain⟨b,off,e7,e8⟩:=e6 hne;refine⟨b,off,e7,?_⟩;by_cases hb:some b=B
    ·exfalso
     cases ys with
     |nil=>exact hne rfl
     |cons y ys=>
      have hy:ER y=true:=abu.1 hf y (by simp);rw[ig]at e8;have h8:=e8.1;cases y<;>simp only[ER]at hy<;>try cases hy
      ·simp only[kP,RD]at h8;obtain⟨v',k1,k2⟩:=h8;obtain⟨s,k3⟩:=hstr b hb _ _ k1;rw[k2]at k3;cases k3
      ·simp only[kP,RD]at h8;obtain⟨v',k1,k2⟩:=h8;obtain⟨s,k3⟩:=hstr b hb _ _ k1;rw[k2]at k3;cases k3
    ·have hz:∀y∈ys,y.cells=[y]/\y.width=1/\(∀F v,RD F y v->RD F' y v):=by
      intro y hy;have:=abu.1 hf y hy;cases y<;>simp only[ER]at this<;>try cases this
      ·exact⟨rfl,rfl,λ F v h=>by simpa only[RD]using h⟩
      ·exact⟨rfl,rfl,λ F v h=>by simpa only[RD]using h⟩
     have hs1:sized ys 1:=λ y hy=>(hz y hy).2.1;refine bN.of_get hs1 λ i y hi=>?_;have h9:=bN.get hs1 e8 hi;have hy:=hz y (abQ hi);rw[nI,hy.1]at h9⊢;simp only[cN,and_true]at h9⊢;obtain⟨v',k1,k2⟩:=h9;exact⟨v',by rw[hFk _ _ hb];exact k1,hy.2.2 _ _ k2⟩
   |g ys=>simp[jk]at hf
   |b x=>simpa only[RV,RD]using hr
   |i k x=>simpa only[RV,RD]using hr
   |s x=>simpa only[RV,RD]using hr
   |np=>simpa only[RV,RD]using hr
  |m i off len=>
   simp only[jk,bne_iff_ne,ne_eq]at hf;simp only[RV]at hr⊢;obtain⟨A1,c1,e1,e2,e3⟩:=hr;exact⟨A1,c1,e1,e2,λ hp=>by obtain⟨b,k1,k2⟩:=e3 hp;exact⟨b,hkeep b i hf k1,k2⟩⟩
  |p i off=>
   simp only[jk,bne_iff_ne,ne_eq]at hf;simp only[RV]at hr⊢;obtain⟨b,k1,k2⟩:=hr;exact⟨b,hkeep b i hf k1,k2⟩
  |np=>simpa only[RV]using hr
  |u=>simp only[RV]
  |e ys i off=>simp[jk]at hf
  |f k=>simp[jk]at hf
  |nifc=>simp[jk]at hf
  |t vs=>simp[jk]at hf
 have hnB:∀b,b<w0.heap.size->some b≠B:=by
  intro b hb e;have hslot:=(hB2 b e.symm).1
  cases h0:G0.own b with
  |none=>have:=(hE.keep b hb (.inl h0)).1;rw[h0,hslot]at this;cases this
  |some ℓ=>
   cases ℓ with
   |obj i=>have:=hE.obj _ _ h0;rw[hslot]at this;cases this
   |cell i o=>have:=hI0.cl _ _ _ h0;simp at this
   |slot q=>exact hns _ _ h0
   |ext=>have:=(hE.keep b hb (.inr h0)).1;rw[h0,hslot]at this;cases this
 refine⟨⟨F',own'⟩,⟨λ b o v h=>hI.fz _ _ _ (hFs _ _ _ h),λ b i h=>?_,λ b b' i h h'=>?_,λ b ℓ h=>?_,λ b i o h=>?_,λ i cs fl h=>?_,hI.tb_of λ b _ h0=>⟨rfl,?_⟩⟩,⟨hE.os,hE.tape,hE.output,hE.size,λ b o v h=>?_,λ b i h=>?_,λ b hb h=>?_,λ b i _ hi=>by simp at hi,λ i hi _=>by simp at hi,by simp⟩,λ t=>?_,λ q z hm=>(by cases hm),(by simpa using hvl),hsz,hdf,hns⟩
 ·rcases hobj b i h with⟨e,rfl⟩|⟨hb,hne,ho⟩
  ·obtain⟨_,cs,el,fz,hgo,hc,hfz,_,hr⟩:=hB2 b e.symm;refine⟨λ o=>by simp only[F',aaR e],_,_,yR hid,hgo,?_⟩;simp only[kQ];refine⟨by simp;omega,λ o y hy=>?_,λ _ _ h=>by cases h⟩;rw[List.getElem?_map]at hy;obtain⟨x,hx1,rfl⟩:=Option.map_eq_some_iff.1 hy;have hst:=abu.1 h2 x (abQ hx1);have hsz1:sized xs 1:=λ y hy=>by
    have:=abu.1 h2 y hy;cases y<;>simp[xH]at this⊢<;>rfl
   have he:=bN.get hsz1 hr hx1;cases x<;>simp only[xH]at hst<;>try cases hst
   simp only[kP,RD,abv,Nat.mul_one]at he;obtain⟨v',e1,e2⟩:=he;have e3:=hI.fz _ _ _ e1;simp only[World.cell?,hgo]at e3;exact⟨v',by simpa using e3,by simp only[RV,RD];exact e2,hfz o,rfl⟩
  ·obtain⟨q1,o,go,q2,q3,q4⟩:=hI.ob _ _ ho;refine⟨λ o=>(hFk _ _ hb).trans (q1 o),o,go,Gc hne q2,q3,?_⟩;obtain⟨cs,rfl,hcs⟩:=q9 hsf q2 hne;cases go<;>simp only[kQ]at q4⊢;obtain⟨p1,p2,p3⟩:=q4;refine⟨p1,λ o c hc=>?_,λ _ _ h=>by cases h⟩;obtain⟨v,k1,k2,k3,k4⟩:=p2 o c hc;exact⟨v,k1,hlift c v (abu.1 hcs c (abQ hc)) k2,k3,k4⟩
 ·rcases hobj b i h with⟨e,h4⟩|⟨hb,hne,ho⟩<;>rcases hobj b' i h' with⟨e',h4'⟩|⟨hb',hne',ho'⟩
  ·rw[<-e']at e;injection e
  ·exact absurd h4 hne'
  ·exact absurd h4' hne
  ·exact hI.inj _ _ _ ho ho'
 ·replace h:own' b=some ℓ:=h;simp only[own']at h;split at h
  ·rename_i e;exact hI.tk _ _ (hB2 b e.symm).1
  ·split at h
   ·rename_i j hj;exact hI.tk _ _ hj
   ·rename_i hj;exact hI.tk _ _ hj
   ·cases h
 ·replace h:own' b=some (.cell i o):=h;simp only[own']at h;split at h
  ·cases h
  ·split at h
   ·split at h<;>cases h
   ·cases h
   ·cases h
 ·by_cases hne:i=id
  ·subst hne;rw[yR hid]at h;injection h with h;injection h with h _;subst h
   exact oy _ _
  ·exact hI.rf _ _ _ (NX hne h)
 ·show own' b=none;have hb:some b≠B:=λ e=>by have:=(hB2 b e.symm).1;rw[h0]at this;cases this
  simp only[own',aaN hb,h0]
 ·show F' b o=some v;rw[hFk _ _ (hnB b (hI0.F_lt h))];exact hE.F _ _ _ h
 ·obtain⟨_,o,_,ho,_⟩:=hI0.ob _ _ h;simp[bV]at ho
 ·obtain⟨k1,k2,k3⟩:=hE.keep b hb h;have hbB:=hnB b hb;refine⟨?_,k2,λ o=>by show F' b o=_;rw[hFk _ _ hbB];exact k3 o⟩;show own' b=_;simp only[own',aaN hbB,k1];rcases h with h|h<;>rw[h]
 ·by_cases e:t=d
  ·subst e;have:(vals.set t (.m id 0 xs.length)).getD t .u = .m id 0 xs.length:=by rw[abG,List.getElem?_set_self hd];rfl
   rw[this,hxe];simp only[RV];refine⟨A,c,by rw[hn],by omega,λ hp=>?_⟩;obtain⟨blk,e1,e2⟩:=hB1 (by intro e;subst e;simp at hp);exact⟨blk,by simp only[own',e1,if_true],e2⟩
  ·have:(vals.set d (.m id 0 xs.length)).getD t .u=vals.getD t .u:=by rw[abG,abG,List.getElem?_set_ne (Ne.symm e)]
   rw[this];refine hlift _ _ ?_ (hF t);have e2:(vals.set d V.u).getD t .u=vals.getD t .u:=by rw[abG,abG,List.getElem?_set_ne (Ne.symm e)]
   rcases abn t (vals.set d V.u).length with hl|hl
   ·have:=abu.1 hfl ((vals.set d V.u)[t]) (List.getElem_mem hl);rw[<-e2,abG,abl hl];exact this
   ·rw[<-e2,abG,abN hl];rfl
end
section
variable {P : Program} {aK : Pol}
variable {f : Task → Option Out} {k n0 nt : Nat} {w0 : World} {G0 : Sg} {S0 : List Ob}
theorem FQ{fn:Func}(hfn:P.funcs[k]?=some fn)(hI0:Inv w0 G0 S0)(hn:S0.length=n0):OB P f k nt w0 G0 S0 [] (vL P fn n0):=by
 intro e vals fl S res he a w G hs;unfold vL at he
 cases e with
 |none=>exact AU hfn hI0 hn hs he λ b cs=>step_end
 |some id=>simp[aD]at he
def oV(P:Program)(aK:Pol):Prop:=∀k g,aK.ext k=some g->∀args S o,g args S=some o->cx P k args S o
theorem NQ (hF : lA P f) (hA : ∀ (k : Nat) (fn : Func) (c0 : Code), P.funcs[k]? = some fn → fn.body = some c0 → oW P f k fn.ntmps c0) (hmix : P.follows .mixedOrders = true) (hext : oV P aK) (gK : ∀ (k : Nat) (fn : Func), P.funcs[k]? = some fn → fn.name ≠ "runtime.NumGoroutine") {args : List V} {S : List Ob} {o : Out} (h : aD f (step P aK (.call k args S)) = some o) : cx P k args S o := by
 simp only[step]at h;split at h
 ·rename_i g hg;rw[bE]at h;obtain⟨o',ho',h⟩:=abd.1 h;simp only[aD,Option.some.injEq]at h;subst h;exact hext k g hg args S _ ho'
 ·rw[bE]at h;obtain⟨fn,hfn,h⟩:=abd.1 h;unfold Rm at h;rw[bE]at h;obtain⟨c,hc,h⟩:=abd.1 h;rw[bS]at h;split at h;rotate_left
  ·simp at h
  rename_i hcond;simp only[Bool.and_eq_true,decide_eq_true_eq]at hcond;intro w G vs hI hvs hslots;refine gL.of_calls hfn (by rw[hc];rfl) (gK k fn hfn) λ cs=>?_;have hl:=eY.length hvs;have hst:St w G S fn.ntmps (args++List.replicate (fn.ntmps-args.length) V.u) [] S { tmps:=vs++Array.replicate (fn.ntmps-vs.size) undef,defers:=[] } w G:=by
   refine⟨hI,Ext.refl _ _ _,λ t=>?_,λ q z hm=>(by cases hm),(by simp;omega),(by simp;rw[Array.length_toList]at hl;omega),rfl,hslots⟩;rcases abn t args.length with ht|ht
   ·obtain⟨v,hv,hr⟩:=eY.get hvs (abl ht);have e1:(args++List.replicate (fn.ntmps-args.length) V.u).getD t .u=args[t]:=by rw[abG,List.getElem?_append_left ht,abl ht];rfl
    have e2:(vs++Array.replicate (fn.ntmps-vs.size) undef).getD t undef=v:=by rw[Array.getD_eq_getD_getElem?,Array.getElem?_append_left (by rw[Array.length_toList]at hl;omega)];rw[Array.getElem?_toList]at hv;rw[hv];rfl
    rw[e1,e2];exact hr
   ·have e1:(args++List.replicate (fn.ntmps-args.length) V.u).getD t .u = .u:=by rw[abG,List.getElem?_append_right ht,List.getElem?_replicate];split<;>rfl
    rw[e1];simp only[RV]
  have hleave:=fN hF hmix hfn (hA k fn c hfn hc) hI rfl c [] (vL P fn S.length) [] rfl (FQ hfn hI rfl) _ _ _ h _ _ _ hst;have henter:Frame.enter P k vs .normal=({ (default:Frame)with fn:=k,kind := .normal }:Frame).at { tmps:=vs++Array.replicate (fn.ntmps-vs.size) undef,defers:=[] } [.code c]:=by simp[Frame.enter,Frame.at,hfn,hc]
  obtain⟨x,w',fr,h1,h2,h3,h4⟩:=hleave { (default:Frame)with fn:=k,kind := .normal } cs rfl rfl;rw[<-henter]at h2;exact⟨.returned x,w',fr,⟨x,rfl,h1⟩,h2,h3,h4⟩
theorem U6(hF:lA P f)(hA:∀(k:Nat) (fn:Func) (c0:Code),P.funcs[k]?=some fn->fn.body=some c0->oW P f k fn.ntmps c0)(hmix:P.follows .mixedOrders=true){fn:Func}{c0:Code}(hfn:P.funcs[k]?=some fn)(hc0:fn.body=some c0){n0:Nat}{path:List Bool}{vals:List V}{fl:Fl}{S:List Ob}{o:Out}
  (h:aD f (step P aK (.at_ k n0 path vals fl S))=some o) (hI0:Inv w0 G0 S0) (hn:S0.length=n0) {a:Act} {w:World} {G:Sg} (hs:St w0 G0 S0 fn.ntmps vals fl S a w G) {x:Code} {rest:List Item} (hit:da path.reverse c0 []=some (x,rest)):oF P k (wF x rest) a w (Yn w0 G0 S0 o):=by
 simp only[step]at h;rcases NY h with⟨d,id,f0,xs,g1,g2,g3,g4,g5,g6⟩|h
 ·have hS0:S0=[]:=List.length_eq_zero_iff.1 (by omega)
  subst hS0;obtain⟨G',hs'⟩:=Va hI0 hs g1 g3 g4 g5;exact hA k fn c0 hfn hc0 _ _ _ _ _ _ g6 w0 G0 [] hI0 hn a w G' hs' x rest hit
 rw[bE]at h;obtain⟨fn',hfn',h⟩:=abd.1 h;rw[hfn]at hfn';injection hfn' with hfn';subst hfn'
 unfold Rk at h;rw[bE]at h;obtain⟨c,hc,h⟩:=abd.1 h;rw[hc0]at hc;injection hc with hc;subst hc
 rw[bE]at h;obtain⟨⟨y,p,K⟩,hloc,h⟩:=abd.1 h;have hAt:=hA k fn c0 hfn hc0;obtain⟨g1,rest',g2,g3⟩:=M4 hF hmix hfn hAt hI0 hn path.reverse c0 [] (vL P fn n0) [] y p K rfl (FQ hfn hI0 hn) hloc;have hp:p=path:=by rw[g1];simp
 subst hp;rw[hit]at g2;injection g2 with g2;injection g2 with g2 g4;subst g2;subst g4
 cases x with
 |loop b=>
  simp only at h;have h1:da (false::p).reverse c0 []=some (b,.inLoop b::rest):=by rw[List.reverse_cons,eP hit];rfl
  exact fN hF hmix hfn hAt hI0 hn b (false::p) _ (.inLoop b::rest) h1 (E0 hAt hI0 hn hit g3) _ _ _ h _ _ _ hs
 |_=>exact fN hF hmix hfn hAt hI0 hn _ p K rest hit g3 _ _ _ h _ _ _ hs
theorem Bu (hmix : P.follows .mixedOrders = true) (hext : oV P aK) (gK : ∀ (k : Nat) (fn : Func), P.funcs[k]? = some fn → fn.name ≠ "runtime.NumGoroutine") : ∀ n, lA P (runN P aK n) ∧ ∀ (k : Nat) (fn : Func) (c0 : Code), P.funcs[k]? = some fn → fn.body = some c0 → oW P (runN P aK n) k fn.ntmps c0
 |0=>⟨λ k args S o h=>by simp[runN]at h,λ k fn c0 _ _ n0 path vals fl S o h=>by simp[runN]at h⟩
 |n+1=>by
  obtain⟨h1,h2⟩:=Bu hmix hext gK n;exact⟨λ k args S o h=>NQ h1 h2 hmix hext gK h,λ k fn c0 hfn hc0 n0 path vals fl S o h w0 G0 S0 hI0 hn a w G hs x rest hit=>U6 h1 h2 hmix hfn hc0 h hI0 hn hs hit⟩
theorem iy (hmix : P.follows .mixedOrders = true) (hext : oV P aK) (gK : ∀ (k : Nat) (fn : Func), P.funcs[k]? = some fn → fn.name ≠ "runtime.NumGoroutine") {args : List V} {S : List Ob} {o : Out} (h : run P aK (.call k args S) = some o) : cx P k args S o := by
 obtain⟨n,hn⟩:=yx.1 h;exact(Bu hmix hext gK n).1 k args S o hn
end
section
variable {P : Program} {aK : Pol}
theorem gL.calls {k : Nat} {vs : Array Value} {w : World} {R : Value → World → Prop} {fn : Func} (hf : P.funcs[k]? = some fn) (hb : fn.body.isSome = true) (hn : fn.name ≠ "runtime.NumGoroutine") (h : gL P k vs w R) :
  Calls P k vs w λ e w'=>∃x,e = .returned x/\R x w':=by
 have hrun:(callFunc k vs).run P w = .ok (.enter k vs) w:=by obtain⟨c,hc⟩:=Option.isSome_iff_exists.1 hb;simp[callFunc,hf,hn,hc]
 let o : Oper := { dst := some 0, op := .move (.tmp 0), type := 0, pos := "", after := #[], guard := none }
 let a:Act:={ tmps:=#[undef],defers:=[] }
 have:=h o a (λ a' w'=>R (a'.tmps.getD 0 undef) w') (λ _ _ _=>False) λ x w' hr=>by
  simpa[Act.put,o,a]using hr
 rw[hrun]at this;simp only[Oper.upon]at this;refine Calls.mono this λ e w' he=>?_
 cases e with
 |returned x=>exact⟨x,rfl,by simpa[Act.put,o,a]using he⟩
 |panicked c=>exact he.elim
 |outgrown=>obtain⟨_,_,h⟩:=he;exact h.elim
def qR(W:World):Fz:=λ b o=>W.cell? ⟨b,o,none⟩
def oD(W:World):Sg:={ F:=qR W,own:=λ _=>none }
def wN(W:World):Prop:=∀b p,yT b=some p->∃arr x y,W.heap[b]?=some (.cells arr x y)/\p arr
theorem Rj(W:World)(hT:wN W):Inv W (oD W) []:=
 ⟨λ _ _ _ h=>h,λ _ _ h=>by simp[oD]at h,λ _ _ _ h=>by simp[oD]at h,λ _ _ h=>by simp[oD]at h,λ _ _ _ h=>by simp[oD]at h,λ _ _ _ h=>by simp[bV]at h,λ b arr h=>⟨hT b arr h,rfl⟩⟩
theorem UZ (hmix : P.follows .mixedOrders = true) (hext : oV P aK) (gK : ∀ (k : Nat) (fn : Func), P.funcs[k]? = some fn → fn.name ≠ "runtime.NumGoroutine") {k : Nat} {fn : Func} (hf : P.funcs[k]? = some fn) (hb : fn.body.isSome = true)
  {args:List V} {vs:Array Value} {W:World} {x:D} {v:Value} (hT:wN W) (h:run P aK (.call k args [])=some (.d x,[])) (hr:eY (oD W) args vs.toList) (hx:∀F y,RD F x y->y=v):
  Calls P k vs W λ e W'=>e = .returned v/\RowKit.Below W.heap.size W W':=by
 have hg:=iy hmix hext gK h W (oD W) vs (Rj W hT) hr (λ b q=>by simp[oD]);refine Calls.mono (hg.calls hf hb (gK k fn hf)) ?_;rintro e w' ⟨y,rfl,G',h1,h2,h3⟩;refine⟨?_,h3.os,h3.tape,h3.output,h3.size,λ b hb=>(h3.keep b hb (.inl (by simp[oD]))).2.1⟩;exact congrArg _ (hx _ _ (by simpa only[RV]using h1))
theorem TG{F:Fz}{y:Value}(h:RD F (.b true) y):y = .bool true:=by simpa only[RD]using h
def ints(k:IntKind)(zs:List Int):List D:=zs.map (.i k)
theorem EP(k:IntKind):ints k []=[]:=rfl
theorem jo(k:IntKind)(zs:List Int):(ints k zs).length=zs.length:=by simp[ints]
theorem yE(k:IntKind)(zs:List Int):sized (ints k zs) 1:=by intro x hx;simp only[ints,List.mem_map]at hx;obtain⟨n,_,rfl⟩:=hx;rfl
theorem Du{F:Fz}{k:IntKind}{blk off:Nat}{zs:List Int}(h:∀i,i<zs.length->F blk (off+i)=some (.int k (zs.getD i 0))):bN F blk off (ints k zs):=by
 refine bN.of_get (yE k zs) λ i x hi=>?_;have hl:i<zs.length:=by rw[<-jo k];exact(abE.1 hi).1
 have hx:x = .i k (zs.getD i 0):=by simp[ints,List.getElem?_map,abl hl]at hi;rw[<-hi,abG,abl hl];rfl
 subst hx;exact⟨_,by rw[Nat.mul_one];exact h i hl,by simp only[RD]⟩
theorem Dt{W:World}{k:IntKind}{a:Option Addr}{len cap:Nat}{zs:List Int}(hlen:len=zs.length)(hcap:len<=cap)
  (h:∀x,a=some x->∀i,i<zs.length->W.cell? (x.add i)=some (.int k (zs.getD i 0))) (hn:a=none->len=0):RD (qR W) (.l false (ints k zs)) (.slice a len cap):=by
 simp only[RD];refine⟨a,len,cap,1,rfl,by rw[jo,hlen],hcap,by simp,yE k zs,λ hne=>?_⟩;have hz:zs≠[]:=λ e=>hne (by rw[e];rfl);have hpos:0<zs.length:=abR.2 hz
 cases a with
 |none=>have:=hn rfl;omega
 |some x=>
  have h0:=h x rfl 0 hpos;have hs:x.spot=none:=by
   simp only[Addr.add,if_true,World.cell?]at h0;split at h0
   ·split at h0
    ·simp at h0
    ·rename_i hh;simpa using hh
   ·simp at h0
  have hx:x=⟨x.block,x.off,none⟩:=by rw[<-hs]
  refine⟨x.block,x.off,by rw[<-hx],Du λ i hi=>?_⟩;have:=h x rfl i hi;unfold qR;rw[<-this];by_cases e:i=0
  ·subst e;simp only[Addr.add,if_true,Nat.add_zero];rw[<-hx]
  ·simp only[Addr.add,aaN e]
end
section
variable {P : Program} {aK : Pol}
def EM(G:Sg)(w w':World):Fz:=λ b o=>if b<w.heap.size then G.F b o else w'.cell? ⟨b,o,none⟩
theorem HG{w w':World}{G:Sg}{S:List Ob}(hI:Inv w G S)(h:RowKit.Below w.heap.size w w'):Grow w G w' ⟨EM G w w',G.own⟩:={
 os:=h.os
 tape:=h.tape
 output:=h.output
 size:=h.size
 heap:=h.block
 own:=rfl
 F:=λ b o v hv=>by
  have:=cell?_lt (hI.fz b o v hv);simp only[EM,aaR this];exact hv
 old:=λ b o hb=>by simp only[EM,aaR hb] }
theorem cx.of_below{k:Nat}{args:List V}{S:List Ob}{v:V}
  (h:∀w G vs,Inv w G S->eY G args vs.toList->gL P k vs w λ x w'=>RowKit.Below w.heap.size w w'/\RV ⟨EM G w w',G.own⟩ v x):cx P k args S (v,S):=by
 intro w G vs hI hr _;intro o a next Q hn;refine h w G vs hI hr o a next Q λ x w' ⟨hb,hx⟩=>hn x w' ?_;have hg:=HG hI hb;refine⟨_,hx,hI.grow hg λ b o' v' hb' hv'=>?_,Ext.of_grow hg⟩;simp only[EM,aaN (Nat.not_lt.2 hb')]at hv';exact hv'
theorem gL.mono{k:Nat}{vs:Array Value}{w:World}{R R':Value->World->Prop}(h:gL P k vs w R)(hR:∀x w',R x w'->R' x w'):gL P k vs w R':=
 λ o a next Q hn=>h o a next Q λ x w' hx=>hn x w' (hR x w' hx)
end
theorem BV{W:World}{k:IntKind}{a:Option Addr}{len cap:Nat}(h:(a=none/\len=0/\cap=0)\/∃(x:Addr) (zs:List Int),a=some x/\len<=cap/\zs.length=cap/\(∀i,i<zs.length->W.cell? (x.add i)=some (.int k (zs.getD i 0)))/\∀n∈zs,(Lit.int k n).wf=true):
  ∃zs:List Int,RD (qR W) (.l false (ints k zs)) (.slice a len cap)/\∀n∈zs,(Lit.int k n).wf=true:=by
 rcases h with⟨rfl,rfl,rfl⟩|⟨x,zs,rfl,hl,hz,hc,hw⟩
 ·exact⟨[],Dt rfl (aa4 _) (λ x e=>by cases e) (λ _=>rfl),by simp⟩
 ·refine⟨zs.take len,Dt (by simp;omega) hl (λ y e i hi=>?_) (λ e=>by cases e),λ n hn=>hw n (List.mem_of_mem_take hn)⟩
  injection e with e;subst e
  have hi':i<len:=by simp at hi;omega
  rw[hc i (by omega)];simp[abG,abP hi']
end Go.Dn
