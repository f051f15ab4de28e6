/- Tables of the library's that stand in memory when a call begins: which block holds what (block 0 the powers of ten, block 1 some integer). -/
import Derived.Lib.ItoaNum
import GoSem.Claims
import Derived.Calls
import Derived.Orders
import Derived.Laws.Sem
import Derived.Laws.Entries
import Derived.ChangeKeysEq
import Derived.Laws.StructEq
set_option linter.unusedVariables false
set_option linter.unusedSimpArgs false
set_option linter.unusedSectionVars false
namespace Go.Dn
def yY(b:Nat):Option (Array Value->Prop):=
 if b=0 then some λ arr=>arr=(Lib.pow10Tab.map λ z=>Value.int .u64 z).toArray
 else if b=1 then some λ arr=>∃m:Int,arr=#[Value.int .i64 m]else none
inductive D where
 |b (x:Bool)
 |i (k:IntKind) (n:Int)
 |s (x:List UInt8)
 |l (full:Bool) (xs:List D)
 |g (cs:List D)
 |np
 deriving Inhabited
inductive V where
 |d (x:D)
 |m (id off len:Nat)
 |p (id off:Nat)
 |np
 |e (xs:List D) (i off:Nat)
 |mp (id:Nat)
 |nmp
 |f (k:Nat) (caps:List V)
 |nf
 |t (vs:List V)
 |ifc (ty:Nat) (x:V)
 |nifc
 |it (id:Nat)
 |u
 deriving Inhabited
def D.width:D->Nat
 | .g cs=>cs.length
 |_=>1
def sized(xs:List D)(sz:Nat):Prop:=∀x∈xs,x.width=sz
abbrev Fz:=Nat->Nat->Option Value
mutual
def RD(F:Fz):D->Value->Prop
 | .b x,v=>v = .bool x
 | .i k n,v=>v = .int k n
 | .s x,v=>v = .string ⟨x.toArray⟩
 | .l full xs,v=>∃a n c sz,v = .slice a n c/\n=xs.length/\n<=c/\(full=true->c=n)/\sized xs sz/\(xs≠[]->∃blk off,a=some ⟨blk,off,none⟩/\bL F blk off xs)
 | .g cs,v=>∃vs,v = .agg vs/\dI F cs vs.toList
 | .np,v=>v = .pointer none
def dI(F:Fz):List D->List Value->Prop
 | [],vs=>vs=[]
 |c::cs,vs=>∃v r,vs=v::r/\RD F c v/\dI F cs r
def bL(F:Fz)(blk off:Nat):List D->Prop
 | []=>True
 | .g cs::xs=>cR F blk off cs/\bL F blk (off+cs.length) xs
 | .b x::xs=>(∃v,F blk off=some v/\RD F (.b x) v)/\bL F blk (off+1) xs
 | .i k x::xs=>(∃v,F blk off=some v/\RD F (.i k x) v)/\bL F blk (off+1) xs
 | .s x::xs=>(∃v,F blk off=some v/\RD F (.s x) v)/\bL F blk (off+1) xs
 | .l fl x::xs=>(∃v,F blk off=some v/\RD F (.l fl x) v)/\bL F blk (off+1) xs
 | .np::xs=>(∃v,F blk off=some v/\RD F .np v)/\bL F blk (off+1) xs
def cR(F:Fz)(blk off:Nat):List D->Prop
 | []=>True
 |c::cs=>(∃v,F blk off=some v/\RD F c v)/\cR F blk (off+1) cs
end
inductive Loc where
 |obj (id:Nat)
 |cell (id off:Nat)
 |slot (n:Nat)
 |ext
 deriving DecidableEq
structure Sg where
 F:Fz
 own:Nat->Option Loc
mutual
def RV(G:Sg):V->Value->Prop
 | .d x,v=>RD G.F x v
 | .m id off len,v=>∃a c,v = .slice a len c/\len<=c/\(0<len->∃blk,G.own blk=some (.obj id)/\a=some ⟨blk,off,none⟩)
 | .p id off,v=>∃blk,G.own blk=some (.obj id)/\v = .pointer (some ⟨blk,off,none⟩)
 | .np,v=>v = .pointer none
 | .e xs i off,v=>∃blk o sz,v = .pointer (some ⟨blk,o+i*sz+off,none⟩)/\sized xs sz/\bL G.F blk o xs
 | .mp id,v=>∃blk,G.own blk=some (.obj id)/\v = .map (some blk)
 | .nmp,v=>v = .map none
 | .f k caps,v=>∃vs,v = .func (.func k) #[] vs/\dJ G caps vs.toList
 | .nf,v=>v = .nilFunc
 | .t xs,v=>∃vs,v = .tuple vs/\dJ G xs vs.toList
 | .ifc ty x,v=>∃y,v = .iface ty y/\RV G x y
 | .nifc,v=>v = .nilIface
 | .it id,v=>∃blk,G.own blk=some (.obj id)/\v = .pointer (some ⟨blk,0,none⟩)
 | .u,_=>True
def dJ(G:Sg):List V->List Value->Prop
 | [],vs=>vs=[]
 |c::cs,vs=>∃v r,vs=v::r/\RV G c v/\dJ G cs r
end
inductive Ob where
 |cells (cs:List V) (fl:List (Nat×Nat))
 |map (es:List (D×D))
 |iter (s:List UInt8) (pos:Nat)
 |dead
 deriving Inhabited
def bT:List Ob->Nat->Option Ob
 | [],_=>none
 |o::S,id=>if id=S.length then some o else bT S id
def oset:List Ob->Nat->Ob->List Ob
 | [],_,_=>[]
 |o::S,id,x=>if id=S.length then x::S else o::oset S id x
mutual
def bP(b:Nat):V->Bool
 | .m id _ _=>id<b
 | .p id _=>id<b
 | .mp id=>id<b
 | .it id=>id<b
 | .f _ caps=>bG b caps
 | .t vs=>bG b vs
 | .ifc _ x=>bP b x
 |_=>true
def bG(b:Nat):List V->Bool
 | []=>true
 |v::vs=>bP b v&&bG b vs
end
def V.one:V->Bool
 | .d (.g _)=>false
 | .t _=>false
 | .u=>false
 |_=>true
def B3(w:World)(F:Fz)(sz:Nat)(ot:Option Nat)(th:Bool)(blk:Nat)(v:Value):Prop:=
 ∃off n c cs el fz,v = .slice (some ⟨blk,off,none⟩) n c/\w.heap[blk]?=some (.cells cs el fz)/\n<=c/\off+c*sz<=cs.size/\fz.1<=fz.2/\((∀t,ot=some t->el=t)/\(th=true->off=0/\fz.1=fz.2))/\
  ∀o,off+n*sz<=o->F blk o=none/\¬(fz.1<=o/\o<fz.2)
def wc(sz:Nat):Option Nat:=if 1000000<=sz then some (sz / 4000000)else none
def zR(ℓ:Loc)(sz:Nat):Bool:=match ℓ with
 | .slot _=>decide (3000000<=sz%4000000)
 |_=>false
def fI(w:World)(G:Sg)(ℓ:Loc)(sz:Nat)(v:Value):Prop:=
 (∃a n,v = .slice a n n/\(1000000<=sz->n=0))\/∃blk,G.own blk=some ℓ/\B3 w G.F (sz%1000000) (wc sz) (zR ℓ sz) blk v
def mr(w:World)(G:Sg)(id:Nat)(arr:Array Value)(el o sz:Nat):Prop:=
 if sz=2000000 then el=o else ∃v,arr[o]?=some v/\fI w G (.cell id o) sz v
theorem mr.map{w w':World}{G G':Sg}{id id':Nat}{arr arr':Array Value}{el o sz:Nat}(h:mr w G id arr el o sz)(hk:∀v,arr[o]?=some v->fI w G (.cell id o) sz v->∃v',arr'[o]?=some v'/\fI w' G' (.cell id' o) sz v'):mr w' G' id' arr' el o sz:=by
 unfold mr at h⊢;split
 ·rename_i e;rw[if_pos e]at h;exact h
 ·rename_i e;rw[if_neg e]at h;obtain⟨v,hv,ht⟩:=h;exact hk v hv ht
def gI(w:World)(G:Sg)(id:Nat):Ob->Obj->Prop
 | .cells cs fl,.cells arr el fz=>cs.length<=arr.size/\(∀(o:Nat) c,cs[o]?=some c->∃v,arr[o]?=some v/\RV G c v/\¬(fz.1<=o/\o<fz.2)/\c.one=true)/\
   (∀o sz,(o,sz)∈fl->mr w G id arr el o sz)
 | .map es,.map ents _=>es.length=ents.size/\∀(i:Nat) k x,es[i]?=some (k,x)->∃e:MapEntry,ents[i]?=some e/\RD G.F k e.key/\RD G.F x e.val
 | .iter s pos,.stringIter t q=>t=⟨s.toArray⟩/\q=pos
 |_,_=>False
structure Inv (w:World) (G:Sg) (S:List Ob):Prop where
 fz:∀b o v,G.F b o=some v->w.cell? ⟨b,o,none⟩=some v
 ob:∀b id,G.own b=some (.obj id)->(∀o,G.F b o=none)/\∃o go,bT S id=some o/\w.heap[b]?=some go/\gI w G id o go
 inj:∀b b' id,G.own b=some (.obj id)->G.own b'=some (.obj id)->b=b'
 tk:∀b ℓ,G.own b=some ℓ->b<w.heap.size
 cl:∀b id o,G.own b=some (.cell id o)->id<S.length
 rf:∀id cs fl,bT S id=some (.cells cs fl)->bG (id+1) cs=true
 tb:∀b p,yY b=some p->(∃arr x y,w.heap[b]?=some (.cells arr x y)/\p arr)/\G.own b=none
theorem Inv.tb_lt{w:World}{G:Sg}{S:List Ob}(hI:Inv w G S){b:Nat}{p:Array Value->Prop}(h:yY b=some p):b<w.heap.size:=by obtain⟨⟨_,x,y,e,_⟩,_⟩:=hI.tb b p h;exact(Array.getElem?_eq_some_iff.1 e).1
theorem Inv.tb_of{w w':World}{G G':Sg}{S:List Ob}(hI:Inv w G S)(h:∀b,b<w.heap.size->G.own b=none->w'.heap[b]?=w.heap[b]?/\G'.own b=none)(b:Nat)(p:Array Value->Prop)(hb:yY b=some p):(∃arr x y,w'.heap[b]?=some (.cells arr x y)/\p arr)/\G'.own b=none:=by obtain⟨⟨arr,x,y,e,hp⟩,ho⟩:=hI.tb b p hb;have:=h b (hI.tb_lt hb) ho;exact⟨⟨arr,x,y,by rw[this.1];exact e,hp⟩,this.2⟩
structure Le (G G':Sg):Prop where
 F:∀b o v,G.F b o=some v->G'.F b o=some v
 obj:∀b id,G.own b=some (.obj id)->G'.own b=some (.obj id)
theorem Le.refl(G:Sg):Le G G:=⟨λ _ _ _ h=>h,λ _ _ h=>h⟩
theorem Le.trans{A B C:Sg}(h:Le A B)(k:Le B C):Le A C:=⟨λ b o v x=>k.F b o v (h.F b o v x),λ b id x=>k.obj b id (h.obj b id x)⟩
def Qd(F F':Fz):Prop:=∀b o v,F b o=some v->F' b o=some v
mutual
theorem RD.mono{F F':Fz}(h:Qd F F'):∀(x:D) (v:Value),RD F x v->RD F' x v
 | .b _,_,hx=>by simpa only[RD]using hx
 | .i _ _,_,hx=>by simpa only[RD]using hx
 | .s _,_,hx=>by simpa only[RD]using hx
 | .l _ xs,_,hx=>by
  simp only[RD]at hx⊢;obtain⟨a,n,c,sz,h1,h2,h3,h4,h5,h6⟩:=hx;exact⟨a,n,c,sz,h1,h2,h3,h4,h5,λ hne=>by obtain⟨blk,off,e,he⟩:=h6 hne;exact⟨blk,off,e,bL.mono h blk off xs he⟩⟩
 | .g cs,_,hx=>by
  simp only[RD]at hx⊢;obtain⟨vs,e,hv⟩:=hx;exact⟨vs,e,dI.mono h cs _ hv⟩
 | .np,_,hx=>by simpa only[RD]using hx
theorem dI.mono{F F':Fz}(h:Qd F F'):∀(xs:List D) (vs:List Value),dI F xs vs->dI F' xs vs
 | [],_,hx=>by simpa only[dI]using hx
 |c::cs,_,hx=>by
  simp only[dI]at hx⊢;obtain⟨v,r,e,h1,h2⟩:=hx;exact⟨v,r,e,RD.mono h c v h1,dI.mono h cs r h2⟩
theorem bL.mono{F F':Fz}(h:Qd F F'):∀(blk off:Nat) (xs:List D),bL F blk off xs->bL F' blk off xs
 |_,_,[],_=>by simp only[bL]
 |blk,off,.g cs::xs,hx=>by simp only[bL]at hx⊢;exact⟨cR.mono h _ _ cs hx.1,bL.mono h _ _ xs hx.2⟩
 |blk,off,.np::xs,hx=>by simp only[bL]at hx⊢;obtain⟨⟨v,e,r⟩,k⟩:=hx;exact⟨⟨v,h _ _ _ e,RD.mono h .np v r⟩,bL.mono h _ _ xs k⟩
 |blk,off,.b x::xs,hx=>by simp only[bL]at hx⊢;obtain⟨⟨v,e,r⟩,k⟩:=hx;exact⟨⟨v,h _ _ _ e,RD.mono h (.b x) v r⟩,bL.mono h _ _ xs k⟩
 |blk,off,.i q x::xs,hx=>by simp only[bL]at hx⊢;obtain⟨⟨v,e,r⟩,k⟩:=hx;exact⟨⟨v,h _ _ _ e,RD.mono h (.i q x) v r⟩,bL.mono h _ _ xs k⟩
 |blk,off,.s x::xs,hx=>by simp only[bL]at hx⊢;obtain⟨⟨v,e,r⟩,k⟩:=hx;exact⟨⟨v,h _ _ _ e,RD.mono h (.s x) v r⟩,bL.mono h _ _ xs k⟩
 |blk,off,.l fl x::xs,hx=>by simp only[bL]at hx⊢;obtain⟨⟨v,e,r⟩,k⟩:=hx;exact⟨⟨v,h _ _ _ e,RD.mono h (.l fl x) v r⟩,bL.mono h _ _ xs k⟩
theorem cR.mono{F F':Fz}(h:Qd F F'):∀(blk off:Nat) (xs:List D),cR F blk off xs->cR F' blk off xs
 |_,_,[],_=>by simp only[cR]
 |blk,off,c::xs,hx=>by simp only[cR]at hx⊢;obtain⟨⟨v,e,r⟩,k⟩:=hx;exact⟨⟨v,h _ _ _ e,RD.mono h c v r⟩,cR.mono h _ _ xs k⟩
end
mutual
theorem RV.mono{G G':Sg}(h:Le G G'):∀(x:V) (v:Value),RV G x v->RV G' x v
 | .d x,_,hx=>by simp only[RV]at hx⊢;exact RD.mono h.F x _ hx
 | .m ..,_,hx=>by
  simp only[RV]at hx⊢;obtain⟨a,c,e,hl,hb⟩:=hx;exact⟨a,c,e,hl,λ hp=>by obtain⟨blk,ho,ha⟩:=hb hp;exact⟨blk,h.obj _ _ ho,ha⟩⟩
 | .p ..,_,hx=>by simp only[RV]at hx⊢;obtain⟨blk,ho,e⟩:=hx;exact⟨blk,h.obj _ _ ho,e⟩
 | .np,_,hx=>by simpa only[RV]using hx
 | .e xs _ _,_,hx=>by
  simp only[RV]at hx⊢;obtain⟨blk,o,sz,e,hs,hr⟩:=hx;exact⟨blk,o,sz,e,hs,bL.mono h.F _ _ xs hr⟩
 | .mp _,_,hx=>by simp only[RV]at hx⊢;obtain⟨blk,ho,e⟩:=hx;exact⟨blk,h.obj _ _ ho,e⟩
 | .nmp,_,hx=>by simpa only[RV]using hx
 | .f _ caps,_,hx=>by simp only[RV]at hx⊢;obtain⟨vs,e,hv⟩:=hx;exact⟨vs,e,dJ.mono h caps _ hv⟩
 | .nf,_,hx=>by simpa only[RV]using hx
 | .t xs,_,hx=>by simp only[RV]at hx⊢;obtain⟨vs,e,hv⟩:=hx;exact⟨vs,e,dJ.mono h xs _ hv⟩
 | .ifc _ x,_,hx=>by simp only[RV]at hx⊢;obtain⟨y,e,hv⟩:=hx;exact⟨y,e,RV.mono h x y hv⟩
 | .nifc,_,hx=>by simpa only[RV]using hx
 | .it _,_,hx=>by simp only[RV]at hx⊢;obtain⟨blk,ho,e⟩:=hx;exact⟨blk,h.obj _ _ ho,e⟩
 | .u,_,_=>by simp only[RV]
theorem dJ.mono{G G':Sg}(h:Le G G'):∀(xs:List V) (vs:List Value),dJ G xs vs->dJ G' xs vs
 | [],_,hx=>by simpa only[dJ]using hx
 |c::cs,_,hx=>by
  simp only[dJ]at hx⊢;obtain⟨v,r,e,h1,h2⟩:=hx;exact⟨v,r,e,RV.mono h c v h1,dJ.mono h cs r h2⟩
end
theorem dI.length{F:Fz}:∀{xs:List D} {vs:List Value},dI F xs vs->vs.length=xs.length
 | [],vs,h=>by simp only[dI]at h;simp[h]
 |c::cs,vs,h=>by simp only[dI]at h;obtain⟨v,r,e,_,h2⟩:=h;simp[e,dI.length h2]
theorem dJ.length{G:Sg}:∀{xs:List V} {vs:List Value},dJ G xs vs->vs.length=xs.length
 | [],vs,h=>by simp only[dJ]at h;simp[h]
 |c::cs,vs,h=>by simp only[dJ]at h;obtain⟨v,r,e,_,h2⟩:=h;simp[e,dJ.length h2]
theorem dI.get{F:Fz}:∀{xs:List D} {vs:List Value} {i:Nat} {x:D},dI F xs vs->xs[i]?=some x->∃v,vs[i]?=some v/\RD F x v
 |c::cs,vs,0,x,h,hi=>by
  simp only[dI]at h;obtain⟨v,r,e,h1,_⟩:=h;simp at hi;subst hi;exact⟨v,by simp[e],h1⟩
 |c::cs,vs,i+1,x,h,hi=>by
  simp only[dI]at h;obtain⟨v,r,e,_,h2⟩:=h;simp at hi;obtain⟨y,hy,hr⟩:=dI.get h2 hi;exact⟨y,by simp[e,hy],hr⟩
theorem dJ.get{G:Sg}:∀{xs:List V} {vs:List Value} {i:Nat} {x:V},dJ G xs vs->xs[i]?=some x->∃v,vs[i]?=some v/\RV G x v
 |c::cs,vs,0,x,h,hi=>by
  simp only[dJ]at h;obtain⟨v,r,e,h1,_⟩:=h;simp at hi;subst hi;exact⟨v,by simp[e],h1⟩
 |c::cs,vs,i+1,x,h,hi=>by
  simp only[dJ]at h;obtain⟨v,r,e,_,h2⟩:=h;simp at hi;obtain⟨y,hy,hr⟩:=dJ.get h2 hi;exact⟨y,by simp[e,hy],hr⟩
theorem dJ.of_get{G:Sg}:∀{xs:List V} {vs:List Value},vs.length=xs.length->(∀(i:Nat) x,xs[i]?=some x->∃v,vs[i]?=some v/\RV G x v)->dJ G xs vs
 | [],vs,hl,_=>by simp only[dJ];exact List.length_eq_zero_iff.1 (by simpa using hl)
 |c::cs,[],hl,_=>by simp at hl
 |c::cs,v::vs,hl,h=>by
  simp only[dJ];obtain⟨v',hv,hr⟩:=h 0 c rfl;simp at hv;subst hv;exact⟨v,vs,rfl,hr,dJ.of_get (by simpa using hl) λ i x hi=>by simpa using h (i+1) x (by simpa using hi)⟩
theorem dI.of_get{F:Fz}:∀{xs:List D} {vs:List Value},vs.length=xs.length->(∀(i:Nat) x,xs[i]?=some x->∃v,vs[i]?=some v/\RD F x v)->dI F xs vs
 | [],vs,hl,_=>by simp only[dI];exact List.length_eq_zero_iff.1 (by simpa using hl)
 |c::cs,[],hl,_=>by simp at hl
 |c::cs,v::vs,hl,h=>by
  simp only[dI];obtain⟨v',hv,hr⟩:=h 0 c rfl;simp at hv;subst hv;exact⟨v,vs,rfl,hr,dI.of_get (by simpa using hl) λ i x hi=>by simpa using h (i+1) x (by simpa using hi)⟩
theorem wT{G:Sg}{c:V}{cs:List V}{v:Value}{vs:List Value}:dJ G (c::cs) (v::vs)↔RV G c v/\dJ G cs vs:=by
 simp only[dJ];constructor
 ·rintro⟨_,_,e,h1,h2⟩;injection e with e1 e2;subst e1;subst e2;exact⟨h1,h2⟩
 ·rintro⟨h1,h2⟩;exact⟨_,_,rfl,h1,h2⟩
def kv(F:Fz)(blk off:Nat)(x:D):Prop:=
 match x with
 | .g cs=>cR F blk off cs
 |x=>∃v,F blk off=some v/\RD F x v
theorem gQ{F:Fz}{blk off:Nat}{x:D}{xs:List D}:bL F blk off (x::xs)↔kv F blk off x/\bL F blk (off+x.width) xs:=by cases x<;>simp only[bL,kv,D.width]
theorem bL.append{F:Fz}{blk:Nat}{sz:Nat}:∀{xs ys:List D} {off:Nat},sized xs sz->(bL F blk off (xs++ys)↔bL F blk off xs/\bL F blk (off+xs.length*sz) ys)
 | [],ys,off,_=>by simp[bL]
 |x::xs,ys,off,h=>by
  have hx:x.width=sz:=h x (by simp);have ht:sized xs sz:=λ y hy=>h y (by simp[hy]);rw[List.cons_append,gQ,gQ,bL.append ht,hx,and_assoc,List.length_cons,Nat.add_mul,Nat.one_mul,Nat.add_comm (xs.length*sz) sz,<-Nat.add_assoc]
theorem bL.get{F:Fz}{blk:Nat}{sz:Nat}:∀{xs:List D} {off i:Nat} {x:D},sized xs sz->bL F blk off xs->xs[i]?=some x->kv F blk (off+i*sz) x
 |y::xs,off,0,x,_,h,hi=>by
  rw[gQ]at h;simp at hi;subst hi;simpa using h.1
 |y::xs,off,i+1,x,hs,h,hi=>by
  rw[gQ]at h;have hy:y.width=sz:=hs y (by simp);have:=bL.get (λ z hz=>hs z (by simp[hz])) h.2 (by simpa using hi);rw[hy]at this;rw[Nat.add_mul,Nat.one_mul,Nat.add_comm (i*sz) sz,<-Nat.add_assoc];exact this
theorem bL.drop{F:Fz}{blk sz:Nat}{xs:List D}{off:Nat}(k:Nat)(hk:k<=xs.length)(hs:sized xs sz)(h:bL F blk off xs):bL F blk (off+k*sz) (xs.drop k):=by have hs':sized (xs.take k) sz:=λ x hx=>hs x (List.mem_of_mem_take hx);rw[<-List.take_append_drop k xs,bL.append hs',List.length_take,Nat.min_eq_left hk]at h;exact h.2
theorem bL.take{F:Fz}{blk sz:Nat}{xs:List D}{off:Nat}(k:Nat)(hs:sized xs sz)(h:bL F blk off xs):bL F blk off (xs.take k):=by have hs':sized (xs.take k) sz:=λ x hx=>hs x (List.mem_of_mem_take hx);rw[<-List.take_append_drop k xs,bL.append hs']at h;exact h.1
theorem cR.get{F:Fz}{blk:Nat}:∀{cs:List D} {off i:Nat} {c:D},cR F blk off cs->cs[i]?=some c->∃v,F blk (off+i)=some v/\RD F c v
 |y::cs,off,0,x,h,hi=>by simp only[cR]at h;simp at hi;subst hi;simpa using h.1
 |y::cs,off,i+1,x,h,hi=>by
  simp only[cR]at h;have:=cR.get h.2 (by simpa using hi)
  rwa[Nat.add_assoc,Nat.add_comm 1 i]at this
theorem bL.of_get{F:Fz}{blk sz:Nat}:∀{xs:List D} {off:Nat},sized xs sz->(∀(i:Nat) x,xs[i]?=some x->kv F blk (off+i*sz) x)->bL F blk off xs
 | [],_,_,_=>by simp only[bL]
 |x::xs,off,hs,h=>by
  rw[gQ];have hx:x.width=sz:=hs x (by simp);refine⟨by simpa using h 0 x rfl,?_⟩;rw[hx];refine bL.of_get (λ z hz=>hs z (by simp[hz])) λ i y hi=>?_;have:=h (i+1) y (by simpa using hi)
  rwa[Nat.add_mul,Nat.one_mul,Nat.add_comm (i*sz) sz,<-Nat.add_assoc]at this
theorem cR.of_get{F:Fz}{blk:Nat}:∀{cs:List D} {off:Nat},(∀(i:Nat) c,cs[i]?=some c->∃v,F blk (off+i)=some v/\RD F c v)->cR F blk off cs
 | [],_,_=>by simp only[cR]
 |c::cs,off,h=>by
  simp only[cR];refine⟨by simpa using h 0 c rfl,cR.of_get λ i y hi=>?_⟩;have:=h (i+1) y (by simpa using hi)
  rwa[<-Nat.add_assoc,Nat.add_right_comm]at this
theorem sized.take{xs:List D}{sz:Nat}(h:sized xs sz)(k:Nat):sized (xs.take k) sz:=λ x hx=>h x (List.mem_of_mem_take hx)
theorem sized.drop{xs:List D}{sz:Nat}(h:sized xs sz)(k:Nat):sized (xs.drop k) sz:=λ x hx=>h x (List.mem_of_mem_drop hx)
theorem sized.append{xs ys:List D}{sz:Nat}(h:sized xs sz)(k:sized ys sz):sized (xs++ys) sz:=λ x hx=>(List.mem_append.1 hx).elim (h x) (k x)
def D.cells:D->List D
 | .g cs=>cs
 |x=>[x]
theorem D.cells_length(x:D):x.cells.length=x.width:=by cases x<;>rfl
theorem nq{F:Fz}{blk off:Nat}{x:D}:kv F blk off x↔cR F blk off x.cells:=by cases x<;>simp only[kv,D.cells,cR,and_true]
def sP:Value->Option D
 | .bool b=>some (.b b)
 | .int k n=>some (.i k n)
 | .string s=>some (.s s.data.toList)
 | .slice none 0 0=>some (.l true [])
 |_=>none
def mL:List Value->Option (List D)
 | []=>some []
 |v::vs=>match sP v,mL vs with
  |some d,some ds=>some (d::ds)
  |_,_=>none
def Fk:Value->Option V
 | .agg cs=>match mL cs.toList with
  |some ds=>some (.d (.g ds))
  |none=>none
 | .pointer none=>some .np
 | .map none=>some .nmp
 | .nilFunc=>some .nf
 | .nilIface=>some .nifc
 | .tuple _=>none
 |v=>match sP v with
  |some d=>some (.d d)
  |none=>none
def ux:List Value->Option (List V)
 | []=>some []
 |v::vs=>match Fk v,ux vs with
  |some d,some ds=>some (d::ds)
  |_,_=>none
def bZ(P:Program)(t:TypeId):Option Nat:=(P.info? t).map (·.size)
def mn(P:Program)(t:TypeId):Option Bool:=(P.underlying t).map λ | .struct _=>true | .array _ _=>true|_=>false
def fS(P:Program)(t:TypeId):Option (List V):=
 match (P.info? t).bind (·.zero) with
 |some v=>ux v.cells.toList
 |none=>none
def yR(P:Program)(t:TypeId):Option V:=((P.info? t).bind (·.zero)).bind Fk
def lp(P:Program)(t:TypeId):Option TypeId:=
 match P.underlying t with
 |some (.slice e)=>some e
 |_=>none
def ev(vals:List V):Operand->Option V
 | .tmp t=>some (vals.getD t .u)
 | .const v=>Fk v
 | .func f=>some (.f f [])
 | .global _=>none
def R5:V->Option D
 | .d x=>some x
 |_=>none
def Xw:V->Option (List UInt8)
 | .d (.s x)=>some x
 |_=>none
def Xv:V->Option V
 | .d (.l f xs)=>some (.d (.l f xs))
 | .m id off len=>some (.m id off len)
 |_=>none
def ML:List V->Option (List D)
 | []=>some []
 |v::vs=>match (match v with | .np=>some D.np|v=>R5 v),ML vs with
  |some d,some ds=>some (d::ds)
  |_,_=>none
def ze:List V->Option (List D)
 | []=>some []
 |v::vs=>match R5 v,ze vs with
  |some d,some ds=>some (d::ds)
  |_,_=>none
def view(S:List Ob)(sz:Nat):V->Option (List D)
 | .d (.l _ xs)=>some xs
 | .m id off len=>match bT S id with
  |some (.cells cs _)=>if sz=1 then(if off+len<=cs.length then ze ((cs.drop off).take len)else none)else none
  |_=>if len=0 then some []else none
 |_=>none
def yl(c a b:V):Option V:=
 match c with
 | .d (.b x)=>some (if x then a else b)
 |_=>none
def M7(op:BinOp)(k:IntKind)(a b:Int):Option V:=
 match op with
 | .add=>some (.d (.i k (k.wrap (a+b))))
 | .sub=>some (.d (.i k (k.wrap (a-b))))
 | .mul=>some (.d (.i k (k.wrap (a*b))))
 | .quo=>if b=0 then none else some (.d (.i k (k.wrap (a.tdiv b))))
 | .rem=>if b=0 then none else some (.d (.i k (a.tmod b)))
 | .and=>some (.d (.i k (k.wrap (BitVec.ofInt k.bits a &&& BitVec.ofInt k.bits b).toNat)))
 | .or=>some (.d (.i k (k.wrap (BitVec.ofInt k.bits a ||| BitVec.ofInt k.bits b).toNat)))
 | .xor=>some (.d (.i k (k.wrap (BitVec.ofInt k.bits a ^^^ BitVec.ofInt k.bits b).toNat)))
 | .andNot=>some (.d (.i k (k.wrap (BitVec.ofInt k.bits a &&& ~~~ BitVec.ofInt k.bits b).toNat)))
 | .eql=>some (.d (.b (a==b)))
 | .neq=>some (.d (.b (a != b)))
 | .lss=>some (.d (.b (a<b)))
 | .leq=>some (.d (.b (a<=b)))
 | .gtr=>some (.d (.b (a>b)))
 | .geq=>some (.d (.b (a ≥ b)))
 |_=>none
def UL(op:BinOp)(k:IntKind)(a b:Int):Option V:=
 if b<0 then none else
 match op with
 | .shl=>some (.d (.i k (k.wrap (a*2^(min b.toNat k.bits)))))
 | .shr=>some (.d (.i k (a.fdiv (2^(min b.toNat k.bits)))))
 |_=>none
def Qt(op:BinOp)(x y:List UInt8):Option V:=
 match op with
 | .add=>if x.length+y.length<4611686018427387904 then some (.d (.s (x++y)))else none
 | .eql=>some (.d (.b (x==y)))
 | .neq=>some (.d (.b !(x==y)))
 | .lss=>some (.d (.b (Op.bytesLess x y)))
 | .leq=>some (.d (.b (Op.bytesLess x y||x==y)))
 | .gtr=>some (.d (.b !(Op.bytesLess x y||x==y)))
 | .geq=>some (.d (.b !(Op.bytesLess x y)))
 |_=>none
def VY:Nat->D->D->Option Bool
 |1,.b x,.b y=>some (x==y)
 |2,.i j x,.i k y=>if j=k then some (x==y)else none
 |3,.s x,.s y=>some (x==y)
 |_,_,_=>none
def Cf:List Nat->List D->List D->Option Bool
 | [],[],[]=>some true
 |k::ks,x::xs,y::ys=>match VY k x y,Cf ks xs ys with
  |some a,some b=>some (a&&b)
  |_,_=>none
 |_,_,_=>none
def k5(bt:List Nat)(op:BinOp)(a b:V):Option V:=
 match a,b with
 | .d (.i k x),.d (.i j y)=>match op with
  | .shl=>UL .shl k x y
  | .shr=>UL .shr k x y
  |op=>if k=j then M7 op k x y else none
 | .d (.s x),.d (.s y)=>Qt op x y
 | .d (.b x),.d (.b y)=>if bt=[1] then(match op with
  | .eql=>some (.d (.b (x==y)))
  | .neq=>some (.d (.b !(x==y)))
  |_=>none)else none
 | .d (.g xs),.d (.g ys)=>match bt with
  |9::ks=>match op,Cf ks xs ys with
   | .eql,some r=>some (.d (.b r))
   | .neq,some r=>some (.d (.b !r))
   |_,_=>none
  |_=>none
 |_,_=>none
def kindOf(P:Program)(t:TypeId):Nat:=
 match P.underlying t with
 |some .bool=>1
 |some (.int _)=>2
 |some .string=>3
 |_=>0
def rj(P:Program)(t:TypeId):Bool:=
 match P.underlying t with
 | some (.struct fs) => !P.stoodInHeld t && !(P.eqGuardType P.depth t) && fs.toList.zipIdx.all (λ (f, i) => f.name != "_" && f.offset == i && kindOf P f.type != 0)
 |_=>false
def Na(P:Program)(t:TypeId):Option (List Nat):=
 match P.underlying t with
 |some .bool=>some [1]
 |some (.int _)=>some []
 |some .string=>some []
 |some (.struct fs)=>if rj P t then some (9::fs.toList.map (λ f=>kindOf P f.type))else none
 |_=>none
def gN(P:Program)(t:TypeId)(k:D):Bool:=
 match P.underlying t,k with
 |some (.int _),.i _ _=>true
 |some .string,.s _=>true
 |_,_=>false
def TX(op:UnOp)(a:V):Option V:=
 match op,a with
 | .neg,.d (.i k n)=>some (.d (.i k (k.wrap (0-n))))
 | .xor,.d (.i k n)=>some (.d (.i k (k.wrap (BitVec.ofInt k.bits (if k.signed then -1 else k.max) ^^^ BitVec.ofInt k.bits n).toNat)))
 | .not,.d (.b x)=>some (.d (.b !x))
 |_,_=>none
def yk(s d:TypeDesc)(a:V):Option V:=
 match d,a with
 | .int k,.d (.i _ n)=>match s with
  | .int _=>some (.d (.i k (k.wrap n)))
  |_=>none
 | .string,.d (.i _ n)=>match s with
  | .int _=>some (.d (.s (Utf8.encode n).data.toList))
  |_=>none
 | .string,.d (.s x)=>match s with
  | .string=>some (.d (.s x))
  |_=>none
 |_,_=>none
def lV:List D->Option (List UInt8)
 | []=>some []
 | .i .u8 n::xs=>(lV xs).map (UInt8.ofNat n.toNat :: ·)
 |_=>none
def ofBytes(x:List UInt8):List D:=x.map λ c => .i .u8 c.toNat
def p8(a i:V):Option V:=
 match a,i with
 | .d (.s x),.d (.i _ n)=>if 0<=n then(x[n.toNat]?).map λ c => .d (.i .u8 c.toNat)else none
 |_,_=>none
def hJ(sz:Nat)(a i:V):Option V:=
 match a,i with
 | .d (.l _ xs),.d (.i _ n)=>if 0<=n then(match xs[n.toNat]? with
   |some x=>if x.width=sz then some (.e xs n.toNat 0)else none
   |none=>none)else none
 | .m id off len,.d (.i _ n)=>if sz=1/\0<=n/\n<(len:Int)then some (.p id (off+n.toNat))else none
 |_,_=>none
def gp(len sz:Nat)(a i:V):Option V:=
 match a,i with
 | .p id off,.d (.i _ n)=>if 0<=n/\n<(len:Int)then some (.p id (off+n.toNat*sz))else none
 | .e xs j off,.d (.i _ n)=>if 0<=n/\n<(len:Int)then some (.e xs j (off+n.toNat*sz))else none
 |_,_=>none
def pn(fo:Nat)(a:V):Option V:=
 match a with
 | .p id off=>some (.p id (off+fo))
 | .e xs i off=>some (.e xs i (off+fo))
 |_=>none
def nS(fo sz:Nat)(agg:Bool)(a:V):Option V:=
 match a with
 | .d (.g cs)=>if agg then(if fo+sz<=cs.length then some (.d (.g ((cs.drop fo).take sz)))else none) else(cs[fo]?).map .d
 |_=>none
def gq(agg:Bool)(sz:Nat)(S:List Ob)(a:V):Option V:=
 match a with
 | .e xs i off=>match xs[i]? with
  |some x=>if agg then(if off+sz<=x.width then some (.d (.g ((x.cells.drop off).take sz)))else none) else(x.cells[off]?).map .d
  |none=>none
 | .p id off=>match bT S id with
  |some (.cells cs _)=>if agg then(if off+sz<=cs.length then(ze ((cs.drop off).take sz)).map (λ ds => .d (.g ds))else none)else cs[off]?
  |_=>none
 |_=>none
def Fj(t:TypeDesc)(S:List Ob)(a:V):Option V:=
 match t,a with
 | .string,.d (.s x)=>some (.d (.i .i64 x.length))
 | .slice _,.d (.l _ xs)=>some (.d (.i .i64 xs.length))
 | .slice _,.m _ _ len=>some (.d (.i .i64 len))
 | .array n _,_=>some (.d (.i .i64 n))
 | .map _ _,.mp id=>match bT S id with
  |some (.map es)=>some (.d (.i .i64 es.length))
  |_=>none
 | .map _ _,.nmp=>some (.d (.i .i64 0))
 |_,_=>none
def nU(v:Option V)(dflt:Nat)(most:Nat):Option Nat:=
 match v with
 |none=>some dflt
 |some (.d (.i _ n))=>if 0<=n/\n<=(most:Int)then some n.toNat else none
 |_=>none
def bw(sz:Nat)(xs:List D):Bool:=
 match xs with
 | []=>true
 |x::_=>x.width==sz
def iM(sz:Nat)(a:V)(lo hi:Option V):Option V:=
 match a with
 | .d (.s x)=>match nU hi x.length x.length with
  |some h=>match nU lo 0 h with
   |some l=>some (.d (.s ((x.drop l).take (h-l))))
   |none=>none
  |none=>none
 | .d (.l _ xs)=>match nU hi xs.length xs.length with
  |some h=>match nU lo 0 h with
   |some l=>if bw sz xs then some (.d (.l false ((xs.drop l).take (h-l))))else none
   |none=>none
  |none=>none
 | .m id off len=>match nU hi len len with
  |some h=>match nU lo 0 h with
   |some l=>if sz=1 then some (.m id (off+l) (h-l))else none
   |none=>none
  |none=>none
 |_=>none
def mK(len sz:Nat)(a:V)(lo hi:Option V):Option V:=
 match a with
 | .p id off=>match nU hi len len with
  |some h=>match nU lo 0 h with
   |some l=>if sz=1 then some (.m id (off+l) (h-l))else none
   |none=>none
  |none=>none
 |_=>none
def uw(a:V)(i:Nat):Option V:=
 match a with
 | .t vs=>vs[i]?
 |_=>none
def OK(a:V):Option V:=
 match a with
 | .p id off=>some (.p id off)
 | .e xs i off=>some (.e xs i off)
 |_=>none
def lay(cs:List D)(off:Nat)(xs:List D):List D:=cs.take off++xs++cs.drop (off+xs.length)
def nR(cs:List D):List (Nat×Nat×Option V)->Option (List D)
 | []=>some cs
 |(off,sz,v)::rest=>match v with
  |some (.d x)=>if x.width=sz/\off+sz<=cs.length then nR (lay cs off x.cells) rest else none
  |_=>none
def jv(sz:Nat):Nat->List (Nat×Option V)->Option (List D)
 |_,[]=>some []
 |i,(j,v)::rest=>if i=j then(match v,jv sz (i+1) rest with
   |some (.d x),some xs=>if x.width=sz then some (x::xs)else none
   |_,_=>none)else none
def OJ:List V->Option V
 | [.d (.i k a),.d (.i j b)]=>if k=j then some (.d (.i k (if b<a then b else a)))else none
 |_=>none
def OI:List V->Option V
 | [.d (.i k a),.d (.i j b)]=>if k=j then some (.d (.i k (if b>a then b else a)))else none
 |_=>none
def qx:D->D->Option Bool
 | .i j x,.i k y=>if j=k then some (x==y)else none
 | .s x,.s y=>some (x==y)
 |_,_=>none
def oo(k:D):List (D×D)->Option (Option D)
 | []=>some none
 |(q,x)::es=>match qx k q with
  |some true=>some (some x)
  |some false=>oo k es
  |none=>none
def E8(k x:D):List (D×D)->List (D×D)
 | []=>[(k,x)]
 |(q,y)::es=>if qx k q=some true then(k,x)::es else(q,y)::E8 k x es
abbrev Fl:=List (Nat×Nat)
abbrev Out:=V×List Ob
inductive Task where
 |call (k:Nat) (args:List V) (S:List Ob)
 |at_ (k n0:Nat) (path:List Bool) (vals:List V) (fl:Fl) (S:List Ob)
inductive Tr where
 |ret (o:Out)
 |fail
 |call (t:Task) (k:Out->Tr)
def Tr.bind:Tr->(Out->Tr)->Tr
 | .ret o,K=>K o
 | .fail,_ => .fail
 | .call t k,K => .call t λ o=>(k o).bind K
def ob{α:Type}(x:Option α)(K:α->Tr):Tr:=
 match x with
 |some a=>K a
 |none => .fail
def aH(c:Bool)(x:Tr):Tr:=
 match c with
 |true=>x
 |false => .fail
def aC(f:Task->Option Out):Tr->Option Out
 | .ret o=>some o
 | .fail=>none
 | .call t k=>match f t with
  |some o=>aC f (k o)
  |none=>none
mutual
def oF:V->Nat
 | .m id _ _=>id+1
 | .p id _=>id+1
 | .mp id=>id+1
 | .it id=>id+1
 | .f _ caps=>lD caps
 | .t vs=>lD vs
 | .ifc _ x=>oF x
 |_=>0
def lD:List V->Nat
 | []=>0
 |v::vs=>max (oF v) (lD vs)
end
def oC(rb:Nat)(S:List Ob):List Ob:=S.drop (S.length-rb)
def mX(rb:Nat)(S:List Ob):List Ob:=S.take (S.length-rb)
def om(rb:Nat)(S:List Ob)(o:Out):Option Out:=
 if o.2.length=rb then(if oF o.1<=rb then some (o.1,mX rb S++o.2)else none)
 else match o.2,o.1 with
  | .cells cs fl::S',.p id off=>if id=rb/\S'.length=rb/\bG rb cs=true then some (.p S.length off,.cells cs fl::(mX rb S++S'))else none
  | .cells cs fl::S',.m id off len=>if id=rb/\S'.length=rb/\bG rb cs=true then some (.m S.length off len,.cells cs fl::(mX rb S++S'))else none
  |_,_=>none
structure Pol where
 cut:Nat->List Bool->Option (List Nat)
 app:Nat->Nat->Nat->Nat
 mh:Nat->Nat->Nat->Fl
 ext:Nat->Option (List V->List Ob->Option Out)
 fresh:Nat->Bool:=λ _=>false
 thw:Nat->List Bool->Option (Nat×Nat):=λ _ _=>none
section
variable (P : Program) (aF : Pol)
def zq(vals:List V):Option Operand->Option (Option V)
 |none=>some none
 |some x=>match ev vals x with
  |some v=>some (some v)
  |none=>none
def mapOf(S:List Ob):V->Option (List (D×D))
 | .nmp=>some []
 | .mp id=>match bT S id with
  |some (.map es)=>some es
  |_=>none
 |_=>none
def partOf(fs:Array Field)(vals:List V)(p:Nat×Operand):Nat×Nat×Option V:=
 match fs[p.1]? with
 |some f=>(f.offset,(bZ P f.type).getD 0,ev vals p.2)
 |none=>(0,0,none)
def dX(vals:List V)(S:List Ob)(o:Oper):Option V:=
 match o.op with
 | .move x | .assign x=>ev vals x
 | .pick c a b=>do yl (<-ev vals c) (<-ev vals a) (<-ev vals b)
 | .build t parts=>
  match P.underlying t,fS P t with
  |some (.struct fs),some z=>if !(fs.toList.all λ f=>(bZ P f.type).isSome)then none else do
   let z <-ML z
   let cs <-nR z (parts.toList.map (partOf P fs vals))
   pure (.d (.g cs))
  |_,_=>none
 | .buildSlice t len parts=>do
  let e <-lp P t
  let sz <-bZ P e
  if parts.size=len/\len*sz<=16777216/\(fS P e).isSome=true then do
   let xs <-jv sz 0 (parts.toList.map λ p=>(p.1,ev vals p.2))
   pure (.d (.l true xs))
  else none
 | .load t a=>do gq (<-mn P t) (<-bZ P t) S (<-ev vals a)
 | .nilCheck x=>do OK (<-ev vals x)
 | .binOp op t x y _=>do k5 (<-Na P t) op (<-ev vals x) (<-ev vals y)
 | .unOp op _ x=>do TX op (<-ev vals x)
 | .convert s d x=>match P.underlying s,P.underlying d with
  |some s',some d'=>match s',d' with
   | .slice e,.string=>match P.underlying e with
    |some (.int .u8)=>do
     let xs <-view S 1 (<-ev vals x)
     let b <-lV xs
     pure (.d (.s b))
    |_=>none
   |_,_=>do yk s' d' (<-ev vals x)
  |_,_=>none
 | .makeFunc fn first captured=>match fn with
  | .func k=>if first.isEmpty then do
    let caps <-captured.toList.mapM (ev vals)
    pure (.f k caps)
   else none
  |_=>none
 | .slice t x lo hi mx=>match mx with
  |some _=>none
  |none=>match P.underlying t with
   |some .string=>do
    let s <-Xw (<-ev vals x)
    iM 1 (.d (.s s)) (<-zq vals lo) (<-zq vals hi)
   |some (.slice e)=>do
    let v <-Xv (<-ev vals x)
    iM (<-bZ P e) v (<-zq vals lo) (<-zq vals hi)
   |some (.array n e)=>do mK n (<-bZ P e) (<-ev vals x) (<-zq vals lo) (<-zq vals hi)
   |_=>none
 | .fieldAddr s x f=>match P.underlying s with
  |some (.struct fs)=>match fs[f]? with
   |some g=>do
    if (<-bZ P g.type)=0 then none else pn g.offset (<-ev vals x)
   |none=>none
  |_=>none
 | .field t x f=>match P.underlying t with
  |some (.struct fs)=>match fs[f]? with
   |some g=>do nS g.offset (<-bZ P g.type) (<-mn P g.type) (<-ev vals x)
   |none=>none
  |_=>none
 | .indexAddr t x i=>match P.underlying t with
  |some (.slice e)=>do hJ (<-bZ P e) (<-ev vals x) (<-ev vals i)
  |some (.array n e)=>do gp n (<-bZ P e) (<-ev vals x) (<-ev vals i)
  |_=>none
 | .index t x i=>match P.underlying t with
  |some .string=>do p8 (<-ev vals x) (<-ev vals i)
  |_=>none
 | .extract t i=>do uw (<-ev vals t) i
 | .lookup t m k ok=>match P.underlying t with
  |some (.map kt e)=>match yR P e with
   |some (.d z)=>do
    let k <-R5 (<-ev vals k)
    if !(gN P kt k)then none else
    let es <-mapOf S (<-ev vals m)
    let r <-oo k es
    pure (match ok with
     |true => .t [.d (r.getD z),.d (.b r.isSome)]
     |false => .d (r.getD z))
   |_=>none
  |_=>none
 | .call c=>match c.callee with
  | .builtin .len=>match c.argTypes[0]?,c.args[0]? with
   |some t,some x=>match P.underlying t with
    |some d=>do Fj d S (<-ev vals x)
    |none=>none
   |_,_=>none
  | .builtin .min=>do OJ (<-c.args.toList.mapM (ev vals))
  | .builtin .max=>do OI (<-c.args.toList.mapM (ev vals))
  |_=>none
 |_=>none
def tok(fl:Fl)(t:Nat):Option Nat:=(fl.find? (·.1==t)).map (·.2)
def et(fl:Fl)(t:Nat):Fl:=fl.filter (·.1 != t)
def dn(S:List Ob)(sz:Nat)(y:V):Option (List D):=
 match y with
 | .d (.s x)=>some (ofBytes x)
 |y=>view S sz y
def dK(zs:List D):Bool:=zs.all λ x=>x.cells.all λ c=>(V.d c).one
def hG(S:List Ob)(sz by_:Nat)(fresh:Bool)(base y:V):Option V:=
 match base with
 | .d (.l full xs)=>match dn S sz y with
  |some zs=>if (fresh=true->full=true)/\bw sz xs=true/\bw sz zs=true/\(full=false->dK zs=true)/\by_<=1024/\xs.length+zs.length<=4294967296 then some (.d (.l (full&&zs.isEmpty) (xs++zs)))else none
  |none=>none
 |_=>none
def jW(S:List Ob)(by_:Nat)(base y:V):Option Out:=
 match base with
 | .d (.l true [])=>match dn S 1 y with
  |some zs=>if bw 1 zs=true/\(zs.map V.d).all V.one=true/\by_<=1024/\zs.length<=4294967296 then some (.m S.length 0 zs.length,.cells (zs.map .d) []::S)else none
  |none=>none
 |_=>none
def qJ(S:List Ob)(a:V):Option (Nat×List Ob):=
 match a with
 | .p id off=>match bT S id with
  |some (.cells cs fl)=>match tok fl off with
   |some sz=>some (sz,oset S id (.cells cs (et fl off)))
   |none=>none
  |_=>none
 |_=>none
def zH(cs:List V)(off:Nat)(xs:List V):List V:=cs.take off++xs++cs.drop (off+xs.length)
def lO(t:Option Nat)(cs:List V)(fl:Fl):Bool:=
 fl.all λ x=>if x.2=2000000 then t==some x.1 else match cs[x.1]? with
  |some (.d (.l true xs))=>decide (x.2<1000000)||xs.isEmpty
  |_=>false
def VB(fl:Fl):Option Nat:=(fl.find? λ x=>x.2==1000000).map (·.1)
def PI(fl:Fl)(sz:Nat):Nat:=match VB fl with
 |some t=>sz+1000000+4000000*t
 |none=>sz
def Xh(fl:Fl)(e:Nat):Bool:=match VB fl with
 |some t=>e==t
 |none=>true
def zS(fl:Fl):Option Nat:=(fl.find? λ x=>x.2==3000000).map (·.1)
def uO(fl:Fl)(sz:Nat):Nat:=match zS fl with
 |some t=>sz+3000000+4000000*t
 |none=>sz
def Xj(fl:Fl)(e:Nat):Bool:=match zS fl with
 |some t=>e==t
 |none=>true
def Xi(fl:Fl)(e:Nat)(b:V):Bool:=match zS fl with
 |some t=>e==t&&(match b with
  | .d (.l _ [])=>true
  |_=>false)
 |none=>true
def N4(x:Nat×Nat):Fl->Fl
 | []=>[x]
 |y::r=>if x.1<=y.1 then x::y::r else y::N4 x r
def B5(tk:Option Nat)(off:Nat)(fl:Fl):Fl:=
 match tk with
 |some z=>if z=2000000 then fl else N4 (off,z) fl
 |none=>fl
def j7(S:List Ob)(agg:Bool)(sz:Nat)(fl:Fl)(tk:Option Nat)(a v:V):Option (List Ob):=
 match a with
 | .p id off=>match bT S id with
  |some (.cells cs fl0)=>if agg then(match v with
    | .d (.g ds)=>if ds.length=sz/\off+sz<=cs.length/\lO none (ds.map .d) fl=true/\(ds.map V.d).all V.one=true then
      some (oset S id (.cells (zH cs off (ds.map .d)) (fl0.filter (λ x=>!(off<=x.1&&x.1<off+sz))++fl.map (λ x=>(off+x.1,x.2)))))else none
    |_=>none)
   else if v.one=true/\sz=1/\off<cs.length/\bP (id+1) v=true then
    some (oset S id (.cells (cs.set off v) (B5 tk off (et fl0 off))))else none
  |_=>none
 |_=>none
def kl(S:List Ob)(t:Nat)(fl:Fl)(cs:List V):Option Out:=
 if lO (some t) cs fl=true/\cs.all V.one=true/\bG S.length cs=true then some (.p S.length 0,.cells cs fl::S)else none
def ou(S:List Ob)(t:Nat)(fl:Fl)(sz:Nat)(v:V):Option Out:=
 match v with
 | .d (.g ds)=>if ds.length=sz then kl S t fl (ds.map .d)else none
 |v=>if sz=1 then kl S t fl [v]else none
def sM(z:D)(n c:V):Option V:=
 match n,c with
 | .d (.i _ n),.d (.i _ c)=>if 0<=n/\n<=c/\c<=4294967296/\(V.d z).one=true then some (.d (.l false (List.replicate n.toNat z)))else none
 |_,_=>none
def nT(S:List Ob)(z:V)(n c:V):Option Out:=
 match n,c with
 | .d (.i _ n),.d (.i _ c)=>if 0<=n/\n=c/\c<=4294967296/\z.one=true/\bP S.length z=true then some (.m S.length 0 n.toNat,.cells (List.replicate n.toNat z) []::S)else none
 |_,_=>none
def rG(S:List Ob)(a:V):Option Out:=
 match a with
 | .it id=>match bT S id with
  |some (.iter s pos)=>if pos<s.length then
    some (.t [.d (.b true),.d (.i .i64 pos),.d (.i .i32 (Utf8.decode ⟨s.toArray⟩ pos).1)],oset S id (.iter s (pos+(Utf8.decode ⟨s.toArray⟩ pos).2)))
   else some (.t [.d (.b false)],S)
  |_=>none
 |_=>none
def hO(S:List Ob)(m k x:V):Option (List Ob):=
 match m,k,x with
 | .mp id,.d k,.d x=>match bT S id with
  |some (.map es)=>if (oo k es).isSome=true then some (oset S id (.map (E8 k x es)))else none
  |_=>none
 |_,_,_=>none
def SD(ops:List Oper)(t:Nat):Option Op:=(ops.find? (λ o=>o.dst==some t)).map (·.op)
def oL(ops:List Oper)(x:Operand):Option Nat:=
 match x with
 | .tmp t=>match SD ops t with
  |some (.move (.tmp y))=>some y
  |some (.call _)=>some t
  |_=>none
 |_=>none
def kR(ops:List Oper)(x:Operand):Option Nat:=
 match x with
 | .tmp t=>match SD ops t with
  |some (.load _ (.tmp y))=>some y
  |_=>none
 |_=>none
def Kk(c:Call):Bool:=
 match c.argTypes[1]? with
 |none=>true
 |some t=>match P.underlying t with
  |some (.slice _)=>true
  |some .string=>true
  |_=>false
def fP(k r i:Nat)(ops:List Oper)(vals:List V)(fl:Fl)(S:List Ob)(o:Oper):Tr:=
 match o.op with
 | .box t x=>ob (bZ P t) λ sz=>ob (ev vals x) λ v=>ob (ou S t (aF.mh k r i) sz v) .ret
 | .store t a x=>ob (mn P t) λ g=>ob (bZ P t) λ sz=>ob (ev vals a) λ va=>ob (ev vals x) λ vx=>
   ob (j7 S g sz (aF.mh k r i) (match x,o.guard with | .tmp y,none=>tok fl y|_,_=>none) va vx) λ S' => .ret (.u,S')
 | .makeMap _ n=>match n with
  |none => .ret (.mp S.length,.map []::S)
  |some _ => .fail
 | .makeSlice t n c=>ob (lp P t) λ e=>ob (fS P e) λ z=>
   aH (decide (((P.info? e).map (·.bytes)).getD 5000<=1024)&&decide (bZ P e=some 1)) (match aF.app k r i,z with
   |0,[.d z]=>ob (ev vals n) λ vn=>ob (ev vals c) λ vc=>ob (sM z vn vc) λ v => .ret (v,S)
   |1,[z]=>ob (ev vals n) λ vn=>ob (ev vals c) λ vc=>ob (nT S z vn vc) .ret
   |_,_ => .fail)
 | .buildSlice t len parts=>ob (lp P t) λ e=>aH (decide (bZ P e=some 1/\parts.size=len/\len*1<=16777216/\(fS P e).isSome=true)) (match aF.app k r i with
   |1=>ob (jv 1 0 (parts.toList.map λ p=>(p.1,ev vals p.2))) λ xs=>aH ((xs.map V.d).all V.one) (.ret (.m S.length 0 xs.length,.cells (xs.map .d) []::S))
   |_ => .fail)
 | .range t x=>match P.underlying t with
  |some .string=>ob (ev vals x) λ v=>match v with
   | .d (.s s) => .ret (.it S.length,.iter s 0::S)
   |_ => .fail
  |_ => .fail
 | .next it true=>ob (ev vals it) λ v=>ob (rG S v) .ret
 | .mapUpdate t m kk x=>match P.underlying t with
  |some (.map kt _)=>ob (ev vals m) λ vm=>ob (ev vals kk) λ vk=>ob (ev vals x) λ vx=>ob (R5 vk) λ k=>aH (gN P kt k) (ob (hO S vm vk vx) λ S' => .ret (.u,S'))
  |_ => .fail
 | .convert s d x=>match P.underlying s,P.underlying d with
  |some .string,some (.slice e)=>match P.underlying e with
   |some (.int .u8)=>ob (ev vals x) λ v=>match v with
    | .d (.s b)=>aH (decide (b.length<=4294967296)&&decide (((P.info? e).map (·.bytes)).getD 5000<=1024)) (match aF.app k r i with
     |0 => .ret (.d (.l false (ofBytes b)),S)
     |1 => .ret (.m S.length 0 b.length,.cells ((ofBytes b).map .d) []::S)
     |_ => .fail)
    |_ => .fail
   |_ => .fail
  |_,_ => .fail
 | .call c=>match c.callee with
  | .builtin .append=>match c.args.toList,c.argTypes[0]? with
   | [x,y],some t=>ob (lp P t) λ e=>ob (bZ P e) λ sz=>ob (ev vals x) λ bx=>ob (ev vals y) λ vy=>
    aH (Kk P c&&decide ((fS P e).map (·.length)=some sz)&&o.dst.isSome&&decide (sz<1000000)) (match aF.app k r i with
    |0=>aH (Xi (aF.mh k r i) e bx) (ob (hG S sz (((P.info? e).map (·.bytes)).getD 5000) true bx vy) λ v => .ret (v,S))
    |1=>aH (sz==1) (ob (jW S (((P.info? e).map (·.bytes)).getD 5000) bx vy) .ret)
    |2=>ob (oL ops x) λ q=>aH (decide (tok fl q=some (uO (aF.mh k r i) sz))&&Xj (aF.mh k r i) e) (ob (hG S sz (((P.info? e).map (·.bytes)).getD 5000) false bx vy) λ v => .ret (v,S))
    |3=>ob (kR ops x) λ q=>ob (qJ S (vals.getD q .u)) λ w=>aH (decide (w.1=PI (aF.mh k r i) sz)&&Xh (aF.mh k r i) e) (ob (hG S sz (((P.info? e).map (·.bytes)).getD 5000) false bx vy) λ v => .ret (v,w.2))
    |_ => .fail)
   |_,_ => .fail
  | .value f=>ob (c.args.toList.mapM (ev vals)) λ args=>ob (ev vals f) λ vf=>match vf with
   | .f g caps=>aH (decide (lD (args++caps)<=S.length)) (.call (.call g (args++caps) (oC (lD (args++caps)) S)) λ o=>ob (om (lD (args++caps)) S o) .ret)
   |_ => .fail
  |_ => .fail
 |_ => .fail
def fU(o:Oper):Bool:=
 match o.op with
 | .box .. | .store .. | .makeMap .. | .makeSlice .. | .range .. | .next .. | .mapUpdate ..=>true
 | .buildSlice _ n _=>decide (20<=n)
 | .convert s d _=>match P.underlying s,P.underlying d with
  |some .string,some (.slice _)=>true
  |_,_=>false
 | .call c=>match c.callee with
  | .builtin .append | .value _=>true
  |_=>false
 |_=>false
def cg(k r i:Nat)(ops:List Oper)(fl:Fl)(o:Oper):Fl:=
 let fl1:=match o.dst with|some d=>et fl d|none=>fl
 if o.guard.isSome then fl1 else
 match o.op,o.dst with
 | .assign (.tmp t),some d=>match tok fl t with
  |some z=>(d,z)::et fl1 t
  |none=>fl1
 | .assign (.const (.slice none 0 0)),some d=>match (lp P o.type).bind (bZ P) with
  |some z=>(d,uO (aF.mh k r i) z)::fl1
  |none=>fl1
 | .store _ _ (.tmp t),_=>et fl1 t
 | .makeSlice t _ _,some d=>if aF.app k r i=0 then(match (lp P t).bind (bZ P) with
   |some z=>(d,z)::fl1
   |none=>fl1)else fl1
 | .call c,some d=>match c.callee with
  | .builtin .append=>match c.args.toList,(c.argTypes[0]?).bind (lp P) with
   | [x,_],some e=>match bZ P e,aF.app k r i with
    |some z,0=>(d,uO (aF.mh k r i) z)::fl1
    |some z,2=>match oL ops x with
     |some q=>(d,uO (aF.mh k r i) z)::et fl1 q
     |none=>fl1
    |some z,3=>(d,PI (aF.mh k r i) z)::fl1
    |_,_=>fl1
   |_,_=>fl1
  |_=>fl1
 |_,_=>fl1
def rH(dst:Option Tmp)(v:V)(vals:List V):List V:=
 match dst with
 |some d=>vals.set d v
 |none=>vals
def gd(g:V)(want:Bool)(x:Option V):Option V:=
 match g with
 | .d (.b c)=>if c=want then x else some (.t [])
 | .t []=>some (.t [])
 |_=>none
def UC(g:V)(want:Bool)(S:List Ob)(x:Tr):Tr:=
 match g with
 | .d (.b c)=>if c=want then x else .ret (.t [],S)
 | .t [] => .ret (.t [],S)
 |_ => .fail
def lP(k r i:Nat)(o:Oper):Bool:=
 match o.guard with
 |none=>true
 |some _=>match o.op with
  | .call c=>match c.callee with
   | .builtin .append=>aF.app k r i==1
   |_=>true
  | .store _ _ (.tmp _)=>true
  |_=>true
def Br(ops:List Oper)(vals:List V)(S:List Ob)(o:Oper):Option V:=
 match o.guard with
 |none=>dX P vals S o
 |some (j,want)=>match ((ops[j]?).bind (·.dst)) with
  |some g=>gd (vals.getD g .u) want (dX P vals S o)
  |none=>none
def oS(k r i:Nat)(ops:List Oper)(vals:List V)(fl:Fl)(S:List Ob)(o:Oper):Tr:=
 match o.guard with
 |none=>fP P aF k r i ops vals fl S o
 |some (j,want)=>match ((ops[j]?).bind (·.dst)) with
  |some g=>UC (vals.getD g .u) want S (fP P aF k r i ops vals fl S o)
  |none => .fail
def cq(o:Oper):Bool:=
 match o.op,o.guard with
 | .alloc _,none=>true
 | .makeMap _ none,none=>true
 | .box _ (.tmp _),none=>o.after.isEmpty
 |_,_=>false
def qN(o:Oper)(id:Nat):V:=
 match o.op with
 | .makeMap _ _ => .mp id
 |_ => .p id 0
def kQ(k r:Nat)(all:List Oper)(vals:List V):List Oper->Nat->List Ob->Option (List Ob)
 | [],_,S=>some S
 |o::os,i,S=>match o.op,o.guard with
  | .alloc t,none=>match fS P t with
   |some z=>match kl S t (aF.mh k r i) z with
    |some w=>kQ k r all vals os (i+1) w.2
    |none=>none
   |none=>none
  | .makeMap _ none,none=>kQ k r all vals os (i+1) (.map []::S)
  | .box t (.tmp q),none=>match o.after.isEmpty with
   |true=>match all.all λ e=>e.dst != some q with
    |true=>match bZ P t with
     |some sz=>match ou S t (aF.mh k r i) sz (vals.getD q .u) with
      |some w=>kQ k r all vals os (i+1) w.2
      |none=>none
     |none=>none
    |false=>none
   |false=>kQ k r all vals os (i+1) S
  |_,_=>kQ k r all vals os (i+1) S
def j0(k r:Nat)(ops:List Oper):List Oper->Nat->Nat->List V->Fl->List Ob->(List V->Fl->List Ob->Tr)->Tr
 | [],_,_,vals,fl,S,K=>K vals fl S
 |o::os,i,id,vals,fl,S,K=>
  match cq o with
  |true=>j0 k r ops os (i+1) (id+1) (rH o.dst (qN o id) vals) (cg P aF k r i ops fl o) S K
  |false=>match lP aF k r i o with
   |false => .fail
   |true=>match fU P o with
    |false=>ob (Br P ops vals S o) λ v=>j0 k r ops os (i+1) id (rH o.dst v vals) (cg P aF k r i ops fl o) S K
    |true=>(oS P aF k r i ops vals fl S o).bind λ w=>j0 k r ops os (i+1) id (rH o.dst w.1 vals) (cg P aF k r i ops fl o) w.2 K
end
section
variable (P : Program) (aF : Pol)
def reads(o:Oper):Bool:=
 match o.op with
 | .load .. | .lookup ..=>true
 | .convert s d _=>match P.underlying s,P.underlying d with
  |some (.slice _),some .string=>true
  |_,_=>false
 | .call c=>match c.callee,(c.argTypes[0]?).bind P.underlying with
  | .builtin .len,some (.map ..)=>true
  |_,_=>false
 |_=>false
def kj(o:Oper):Bool:=
 match o.op with
 | .makeSlice ..=>true
 | .assign (.const (.slice none 0 0))=>true
 | .call c=>match c.callee with
  | .builtin .append=>true
  |_=>false
 |_=>false
def rl(fl:Fl)(ops:List Oper)(t:Nat):Bool:=(tok fl t).isSome||ops.any λ o=>o.dst==some t&&kj o
def kx(fl:Fl)(ops:List Oper)(t:Nat):Bool:=
 rl fl ops t||ops.any λ o=>o.dst==some t&&(match o.op with
  | .assign (.tmp u)=>rl fl ops u
  |_=>false)
def cls(fl:Fl)(ops:List Oper)(o:Oper):Nat:=
 if cq o then 2 else
 if fU P o then 3 else
 if (match o.dst with|some d=>kx fl ops d|none=>false)then 3 else
 if reads P o then 1 else 0
def lJ:Op->Bool
 | .call c=>match c.callee with
  | .value _=>true
  |_=>false
 |_=>false
def dG(vals:List V)(id off n:Nat)(o:Oper):Bool:=
 match o.op with
 | .call c=>match c.callee with
  | .value f=>(match c.args.toList.mapM (ev vals),ev vals f with
   |some vs,some g=>bG id vs&&bP id g
   |_,_=>false)
  | .builtin .append=>true
  |_=>false
 | .store t a _=>match ev vals a,bZ P t with
  |some (.p id' off'),some n'=>id != id'||off+n<=off'||off'+n'<=off
  |_,_=>false
 | .alloc _ | .box .. | .makeSlice .. | .buildSlice .. | .makeMap .. | .range .. | .mapUpdate .. | .next ..=>true
 | .assign _ | .move _=>true
 |_=>false
def looks(ops:List Oper)(o:Oper):List Nat:=
 (o.op.operands.toList.filterMap λ | .tmp t=>some t|_=>none)++(match o.guard with
  |some (j,_)=>((ops[j]?).bind (·.dst)).toList
  |none=>[])
def steady(ops:List Oper)(o:Oper)(j:Nat):Bool:=(ops.drop j).all λ e=>match e.dst with|some d=>!((looks ops o).contains d)|none=>true
def CP(n1:Nat)(vals:List V)(a b:Oper):Bool:=
 match a.op with
 | .load t x=>match ev vals x,bZ P t with
  |some (.e ..),_=>true
  |some (.p id off),some n=>decide (id<n1)&&(mn P t==some true||n==1)&&dG P vals id off n b
  |_,_=>false
 | .convert _ _ x=>match ev vals x with
  |some (.d _)=>true
  |_=>false
 |_=>false
def mask(acc:List Nat)(o:Oper):Nat:=o.after.toList.foldl (λ s e=>if Region.binds .any e then s ||| 2^e.on ||| acc.getD e.on 0 else s) 0
def gM:List Oper->List Nat->List Nat
 | [],acc=>acc
 |o::os,acc=>gM os (acc++[mask acc o])
def apart(ops:List Oper)(x y:Oper):Bool:=
 (match x.dst with|some d=>!((looks ops y).contains d)&&y.dst != some d|none=>true)&&(match y.dst with|some d=>!((looks ops x).contains d)|none=>true)
def gP(n1:Nat)(fl:Fl)(ops:List Oper)(vals:List V)(bef:List Nat)(x y:Oper)(i j:Nat):Bool:=
 (bef.getD j 0).testBit i||apart ops x y &&
  match cls P fl ops x,cls P fl ops y with
  |0,_=>true
  |_,0=>true
  |2,_=>true
  |_,2=>true
  |1,1=>true
  |1,3=>CP P n1 vals x y&&steady ops x i&&steady ops y j
  |3,1=>CP P n1 vals y x&&steady ops x i&&steady ops y j
  |_,_=>false
def qV(n1:Nat)(fl:Fl)(ops:List Oper)(vals:List V):Bool:=
 let bef:=gM ops []
 ops.zipIdx.all λ (y,j)=>y.after.all (λ e=>!Region.binds .any e||e.on<j) &&
  (match y.op with | .assign (.tmp t)=>ops.all λ o=>!(o.dst==some t&&(match o.op with | .assign _=>true|_=>false)) | .select ..=>false|_=>true) &&
  (!cq y||(match y.dst with|some d=>!kx fl ops d|none=>true)) &&
  (ops.take j).zipIdx.all λ (x,i)=>gP P n1 fl ops vals bef x y i j
def early(bef:List Nat)(draw:Bool)(i j:Nat):Bool:=j != i&&(j<i||draw && !((bef.getD j 0).testBit i))
def tp(n k r:Nat)(draw:Bool)(ops:List Oper)(vals:List V)(bef:List Nat)(o:Oper)(i:Nat):Bool:=
 match o.op with
 | .call c=>match c.callee with
  | .builtin .append=>match aF.app k r i with
   |2=>match c.args.toList with
    |x::_=>match x,oL ops x with
     | .tmp t,some q=>q==t||(ops.take i).any (λ e=>e.dst==some t)&&ops.zipIdx.all λ (e,j)=>(!(early bef draw i j)||e.dst != some q)&&(e.dst != some t||(e.guard.isNone&&(match e.op with | .move (.tmp q')=>q'==q|_=>false)))
     |_,_=>false
    |_=>false
   |3=>match c.args.toList with
    |x::_=>match x,kR ops x with
     | .tmp t,some q=>match vals.getD q .u with
      | .p id off=>decide (id<n)&&(ops.take i).any (λ e=>e.dst==some t)&&ops.zipIdx.all λ (e,j)=>(!(early bef draw i j&&fU P e)||dG P vals id off 1 e&&steady ops e j)&&(e.dst != some t||(steady ops e j&&e.guard.isNone&&(match e.op with | .load ty (.tmp q')=>q'==q&&bZ P ty==some 1&&mn P ty==some false|_=>false)))
      |_=>false
     |_,_=>false
    |_=>false
   |_=>true
  |_=>true
 |_=>true
def ll(n k r:Nat)(draw:Bool)(ops:List Oper)(vals:List V):Bool:=
 let bef:=gM ops []
 ops.zipIdx.all λ (o,i)=>tp P aF n k r draw ops vals bef o i
def kV(k r:Nat)(ops:List Oper)(draw:Bool)(vals:List V)(fl:Fl)(S:List Ob)(K:List V->Fl->List Ob->Tr):Tr:=
 ob (kQ P aF k r ops vals ops 0 S) λ S1=>j0 P aF k r ops ops 0 S.length vals fl S1 λ vals' fl' S'=>
  aH (qV P S1.length fl ops vals') (aH (ll P aF S.length k r true ops vals') (K vals' fl' S'))
abbrev ji:=Option Nat->List V->Fl->List Ob->Tr
def ct(live:List Nat):Nat->List V->List V
 |_,[]=>[]
 |i,v::vs=>(if live.contains i then v else .u)::ct live (i+1) vs
def qR(live:List Nat)(fl:Fl):Fl:=fl.filter λ x=>live.contains x.1
def mA(n0:Nat)(S:List Ob):List Ob:=S.drop (S.length-n0)
def zK(n0:Nat)(v:V)(S:List Ob):Option Out:=
 match v with
 | .d x=>some (.d x,mA n0 S)
 | .np=>some (.np,mA n0 S)
 | .nf=>some (.nf,mA n0 S)
 | .t vs=>if bG 0 vs=true then some (.t vs,mA n0 S)else none
 | .p id off=>if n0<=id then(match bT S id with
   |some (.cells cs fl)=>if bG n0 cs=true/\n0<=S.length then some (.p n0 off,.cells cs fl::mA n0 S)else none
   |_=>none)else some (.p id off,mA n0 S)
 | .m id off len=>if n0<=id then(match bT S id with
   |some (.cells cs fl)=>if bG n0 cs=true/\n0<=S.length then some (.m n0 off len,.cells cs fl::mA n0 S)else none
   |_=>none)else some (.m id off len,mA n0 S)
 |_=>none
def Rx(vals:List V)(S:List Ob):ResultVar->Option V
 | .tmp t=>some (vals.getD t .u)
 | .cell a t=>do gq (<-mn P t) (<-bZ P t) S (vals.getD a .u)
def FL(vals:List V)(S:List Ob):List ResultVar->Option (List V)
 | []=>some []
 |r::rs=>match Rx P vals S r,FL vals S rs with
  |some v,some vs=>some (v::vs)
  |_,_=>none
def fin(fn:Func)(n0:Nat)(vals:List V)(S:List Ob):Tr:=
 ob (FL P vals S fn.results.toList) λ vs=>match vs with
  | [v]=>ob (zK n0 v S) .ret
  |vs=>ob (zK n0 (.t vs) S) .ret
def ma(id:Nat)(K:ji):ji:=λ e vals fl S=>
 match e with
 |some id'=>if id'=id then K none vals fl S else K (some id') vals fl S
 |none=>K none vals fl S
def trimS(n0:Nat)(vals:List V)(S:List Ob):List Ob:=mA (max n0 (lD vals)) S
def Cv(k n0:Nat)(path:List Bool)(vals:List V)(fl:Fl)(S:List Ob):Tr:=
 match aF.cut k path with
 |some live => .call (.at_ k n0 path (ct live 0 vals) (qR live fl) (trimS n0 (ct live 0 vals) S)) .ret
 |none => .call (.at_ k n0 path vals fl S) .ret
def VX(c:V)(x y:Tr):Tr:=
 match c with
 | .d (.b t)=>if t=true then x else y
 |_ => .fail
def evalCode(fn:Func)(k n0:Nat):Code->List Bool->ji->List V->Fl->List Ob->Tr
 | .skip,_,K,vals,fl,S=>K none vals fl S
 | .region r ops draw,_,K,vals,fl,S=>kV P aF k r ops.toList draw vals fl S (K none)
 | .seq a b,path,K,vals,fl,S=>evalCode fn k n0 a (false::path) (λ e vals fl S=>
   match e with
   |some id=>K (some id) vals fl S
   |none=>match aF.cut k (true::path) with
    |some live => .call (.at_ k n0 (true::path) (ct live 0 vals) (qR live fl) (trimS n0 (ct live 0 vals) S)) .ret
    |none=>evalCode fn k n0 b (true::path) K vals fl S) vals fl S
 | .cond c a b,path,K,vals,fl,S=>ob (ev vals c) λ v=>VX v (evalCode fn k n0 a (false::path) K vals fl S) (evalCode fn k n0 b (true::path) K vals fl S)
 | .block id c,path,K,vals,fl,S=>evalCode fn k n0 c (false::path) (ma id K) vals fl S
 | .loop _,path,_,vals,fl,S=>Cv aF k n0 path vals fl S
 | .exit id,_,K,vals,fl,S=>K (some id) vals fl S
 | .ret,_,_,vals,_,S=>fin P fn n0 vals S
 |_,_,_,_,_,_ => .fail
def Pc(fn:Func)(k n0:Nat)(b:Code)(path:List Bool)(K:ji):ji:=λ e vals fl S=>
 match e with
 |some id=>K (some id) vals fl S
 |none=>match aF.cut k (true::path) with
  |some live => .call (.at_ k n0 (true::path) (ct live 0 vals) (qR live fl) (trimS n0 (ct live 0 vals) S)) .ret
  |none=>evalCode P aF fn k n0 b (true::path) K vals fl S
def sG(k n0:Nat)(path:List Bool)(K:ji):ji:=λ e vals fl S=>
 match e with
 |some id=>K (some id) vals fl S
 |none=>Cv aF k n0 path vals fl S
def jV(fn:Func)(k n0:Nat):List Bool->Code->List Bool->ji->Option (Code×List Bool×ji)
 | [],c,path,K=>some (c,path,K)
 |false::p,.seq a b,path,K=>jV fn k n0 p a (false::path) (Pc P aF fn k n0 b path K)
 |true::p,.seq _ b,path,K=>jV fn k n0 p b (true::path) K
 |false::p,.cond _ a _,path,K=>jV fn k n0 p a (false::path) K
 |true::p,.cond _ _ b,path,K=>jV fn k n0 p b (true::path) K
 |false::p,.block id c,path,K=>jV fn k n0 p c (false::path) (ma id K)
 |false::p,.loop c,path,K=>jV fn k n0 p c (false::path) (sG aF k n0 path K)
 |_,_,_,_=>none
def vN(fn:Func)(n0:Nat):ji:=λ e vals _ S=>
 match e with
 |none=>fin P fn n0 vals S
 |some _ => .fail
def Pr(fn:Func)(k:Nat)(args:List V)(S:List Ob):Tr:=
 ob fn.body λ c=>aH (decide (args.length<=fn.ntmps)&&bG S.length args)
  (evalCode P aF fn k S.length c [] (vN P fn S.length) (args++List.replicate (fn.ntmps-args.length) .u) [] S)
def Pp(fn:Func)(k n0:Nat)(path:List Bool)(vals:List V)(fl:Fl)(S:List Ob):Tr:=
 ob fn.body λ c=>ob (jV P aF fn k n0 path.reverse c [] (vN P fn n0)) λ l=>match l with
  |(.loop b,p,K)=>evalCode P aF fn k n0 b (false::p) (sG aF k n0 p K) vals fl S
  |(x,p,K)=>evalCode P aF fn k n0 x p K vals fl S
def ES:D->Bool
 | .b _=>true
 | .i _ _=>true
 |_=>false
def xX:D->Bool
 | .s _=>true
 |_=>false
def gV(id:Nat):V->Bool
 | .d (.l _ xs)=>xs.all ES
 | .d (.g _)=>false
 | .d _=>true
 | .m i _ _=>i != id
 | .p i _=>i != id
 | .np=>true
 | .nmp=>true
 | .nf=>true
 | .u=>true
 |_=>false
def jf(id:Nat):List Ob->Bool
 | []=>true
 |o::S=>(if id=S.length then true else match o with
  | .cells cs []=>cs.all (gV id)
  |_=>false)&&jf id S
def Km(fl:Fl)(d:Nat):Bool:=match tok fl d with
 |some z=>decide (3000000<=z%4000000)&&decide (z%1000000=1)
 |none=>false
def tv(id:Nat)(xs:List D)(S:List Ob):List Ob:=if id=S.length then .cells (xs.map .d) []::S else oset S id (.cells (xs.map .d) [])
def yX(k n0:Nat)(path:List Bool)(vals:List V)(fl:Fl)(S:List Ob)(K:Tr):Tr:=
 match aF.thw k path with
 |none=>K
 |some (d,id)=>match vals.getD d .u with
  | .d x=>match x with
   | .l _ xs=>aH (n0==0&&Km fl d&&decide (d<vals.length)&&decide (id<=S.length)) (aH (xs.all xX) (aH ((vals.set d .u).all (gV id)) (aH (jf id S)
     (.call (.at_ k n0 path (vals.set d (.m id 0 xs.length)) [] (tv id xs S)) .ret))))
   |_ => .fail
  |_=>K
def step:Task->Tr
 | .call k args S=>match aF.ext k with
  |some f=>ob (f args S) .ret
  |none=>ob P.funcs[k]? λ fn=>Pr P aF fn k args S
 | .at_ k n0 path vals fl S=>yX aF k n0 path vals fl S (ob P.funcs[k]? λ fn=>Pp P aF fn k n0 path vals fl S)
def runN:Nat->Task->Option Out
 |0,_=>none
 |n+1,t=>aC (runN n) (step P aF t)
open Classical in
noncomputable def run(t:Task):Option Out:=if h:∃r n,runN P aF n t=some r then some h.choose else none
end
theorem iY{f g:Task->Option Out}(h:∀t r,f t=some r->g t=some r):∀(x:Tr) (r:Out),aC f x=some r->aC g x=some r
 | .ret _,_,e=>e
 | .fail,_,e=>by simp[aC]at e
 | .call t k,r,e=>by
  simp only[aC]at e⊢
  cases hf:f t with
  |none=>rw[hf]at e;simp at e
  |some o=>rw[hf]at e;rw[h t o hf];exact iY h (k o) r e
section
variable {P : Program} {aF : Pol}
theorem Bz:∀(n:Nat) (t:Task) (r:Out),runN P aF n t=some r->runN P aF (n+1) t=some r
 |0,_,_,e=>by simp[runN]at e
 |n+1,t,r,e=>iY (Bz n) _ r e
theorem Kb{n m:Nat}(h:n<=m)(t:Task)(r:Out)(e:runN P aF n t=some r):runN P aF m t=some r:=by
 induction h with
 |refl=>exact e
 |step _ ih=>exact Bz _ t r ih
theorem yF{t:Task}{r:Out}:run P aF t=some r↔∃n,runN P aF n t=some r:=by
 constructor
 ·intro h;unfold run at h;split at h
  ·rename_i hx;obtain⟨n,hn⟩:=hx.choose_spec;injection h with h
   exact⟨n,h▸hn⟩
  ·simp at h
 ·rintro⟨n,hn⟩;have hx:∃r n,runN P aF n t=some r:=⟨r,n,hn⟩
  unfold run;rw[dif_pos hx];obtain⟨m,hm⟩:=hx.choose_spec;have h1:=Kb (Nat.le_max_left n m) t r hn;have h2:=Kb (Nat.le_max_right n m) t _ hm;rw[h1]at h2;exact h2.symm
end
theorem o5(f:Task->Option Out)(K:Out->Tr):∀x:Tr,aC f (x.bind K)=(aC f x).bind λ o=>aC f (K o)
 | .ret _=>rfl
 | .fail=>rfl
 | .call t k=>by
  simp only[Tr.bind,aC]
  cases f t with
  |none=>rfl
  |some o=>exact o5 f K (k o)
theorem aX{α:Type}(f:Task->Option Out)(x:Option α)(K:α->Tr):aC f (ob x K)=x.bind λ a=>aC f (K a):=by cases x<;>rfl
theorem bI(f:Task->Option Out)(c:Bool)(x:Tr):aC f (aH c x)=if c=true then aC f x else none:=by cases c<;>rfl
theorem ft(f:Task->Option Out)(t:Task)(K:Out->Tr):aC f (.call t K)=(f t).bind λ o=>aC f (K o):=by simp only[aC];cases f t<;>rfl
theorem Addr.add_plain(b o i:Nat):(⟨b,o,none⟩:Addr).add i=⟨b,o+i,none⟩:=by
 unfold Addr.add;split
 ·rename_i h;simp[h]
 ·rfl
section
variable {P : Program} {w : World}
theorem cJ{t:TypeId}{n:Nat}(h:bZ P t=some n):(sizeOf t).run P w = .ok n w:=by
 unfold bZ at h
 cases hi:P.info? t with
 |none=>rw[hi]at h;simp at h
 |some i=>rw[hi]at h;simp at h;subst h;simp[sizeOf,run_typeInfo w hi]
theorem ie{t:TypeId}{g:Bool}(h:mn P t=some g):(isAgg t).run P w = .ok g w:=by
 unfold mn at h
 cases hu:P.underlying t with
 |none=>rw[hu]at h;simp at h
 |some d=>rw[hu]at h;simp at h;subst h;cases d<;>simp[isAgg,run_underlying hu]
theorem run_loadCellsFrom(b o:Nat):∀(l:List Value) (i:Nat) (acc:Array Value),(∀(j:Nat) v,l[j]?=some v->w.cell? ⟨b,o+(i+j),none⟩=some v)->
  (loadCellsFrom ⟨b,o,none⟩ i l.length acc).run P w = .ok (acc++l.toArray) w
 | [],i,acc,_=>by simp[loadCellsFrom]
 |v::l,i,acc,h=>by
  have h0:=h 0 v rfl;simp only[List.length_cons,loadCellsFrom,Sem.run_bind,Addr.add_plain,run_load];rw[Nat.add_zero]at h0;rw[h0];simp only[Result.andThen_ok];rw[run_loadCellsFrom b o l (i+1) (acc.push v) λ j x hj=>by
   have:=h (j+1) x (by simpa using hj)
   rwa[show i+1+j=i+(j+1) by omega]]
  simp
theorem run_loadCells{b o n:Nat}{l:List Value}(hn:l.length=n)(h:∀(j:Nat) v,l[j]?=some v->w.cell? ⟨b,o+j,none⟩=some v):
  (loadCells ⟨b,o,none⟩ n).run P w = .ok l.toArray w:=by
 subst hn;unfold loadCells;rw[run_loadCellsFrom b o l 0 #[] (by simpa using h)];simp
theorem mz{R:Nat->Value->Prop}{b o:Nat}:∀(n:Nat),(∀j,j<n->∃v,w.cell? ⟨b,o+j,none⟩=some v/\R j v)->
  ∃l:List Value,l.length=n/\(∀(j:Nat) v,l[j]?=some v->w.cell? ⟨b,o+j,none⟩=some v)/\∀j,j<n->∃v,l[j]?=some v/\R j v
 |0,_=>⟨[],rfl,by simp,by simp⟩
 |n+1,h=>by
  obtain⟨l,hl,h1,h2⟩:=mz n λ j hj=>h j (by omega);obtain⟨v,hv,hr⟩:=h n (by omega);refine⟨l++[v],by simp[hl],?_,?_⟩
  ·intro j x hj;rcases Nat.lt_trichotomy j n with hlt|heq|hgt
   ·rw[List.getElem?_append_left (by omega)]at hj;exact h1 j x hj
   ·subst heq;rw[List.getElem?_append_right (by omega),hl]at hj;simp at hj;subst hj;exact hv
   ·rw[List.getElem?_eq_none (by simp[hl];omega)]at hj;simp at hj
  ·intro j hj;by_cases e:j=n
   ·subst e;exact⟨v,by rw[List.getElem?_append_right (by omega),hl];simp,hr⟩
   ·obtain⟨x,hx,hr⟩:=h2 j (by omega)
    exact⟨x,by rw[List.getElem?_append_left (by omega)];exact hx,hr⟩
theorem du:∀{S:List Ob} {id:Nat} {o:Ob},bT S id=some o->id<S.length
 | [],_,_,h=>by simp[bT]at h
 |x::S,id,o,h=>by
  simp only[bT]at h;split at h
  ·rename_i e;simp[e]
  ·have:=du h;simp;omega
end
theorem vH{F:Fz}{v:Value}{d:D}(h:sP v=some d):RD F d v/\d.width=1:=by
 unfold sP at h;split at h<;>simp at h<;>subst h<;>simp only[RD,D.width,and_true]
 ·refine⟨none,0,0,0,?_⟩;refine⟨rfl,rfl,Nat.le_refl _,λ _=>rfl,?_,by simp⟩;intro x hx;simp at hx
theorem sQ{F:Fz}:∀{vs:List Value} {ds:List D},mL vs=some ds->dI F ds vs
 | [],ds,h=>by simp[mL]at h;subst h;simp only[dI]
 |v::vs,ds,h=>by
  simp only[mL]at h;split at h
  ·rename_i d r hd hr;simp at h;subst h;simp only[dI];exact⟨v,vs,rfl,(vH hd).1,sQ hr⟩
  ·simp at h
theorem yn{G:Sg}{v:Value}{x:V}(h:Fk v=some x):RV G x v:=by
 unfold Fk at h;split at h
 ·split at h
  ·rename_i hd;simp at h;subst h;simp only[RV,RD];exact⟨_,rfl,sQ hd⟩
  ·simp at h
 ·simp at h;subst h;simp only[RV]
 ·simp at h;subst h;simp only[RV]
 ·simp at h;subst h;simp only[RV]
 ·simp at h;subst h;simp only[RV]
 ·simp at h
 ·split at h
  ·rename_i hd;simp at h;subst h;simp only[RV];exact(vH hd).1
  ·simp at h
theorem uy{G:Sg}:∀{vs:List Value} {xs:List V},ux vs=some xs->dJ G xs vs
 | [],ds,h=>by simp[ux]at h;subst h;simp only[dJ]
 |v::vs,ds,h=>by
  simp only[ux]at h;split at h
  ·rename_i d r hd hr;simp at h;subst h;simp only[dJ];exact⟨v,vs,rfl,yn hd,uy hr⟩
  ·simp at h
def Fr(G:Sg)(vals:List V)(a:Act):Prop:=∀t,RV G (vals.getD t .u) (a.tmps.getD t undef)
theorem cT{G:Sg}{vals:List V}{a:Act}(hf:Fr G vals a){x:Operand}{v:V}(h:ev vals x=some v):RV G v (a.eval x):=by
 cases x with
 |tmp t=>simp[ev]at h;subst h;exact hf t
 |const c=>exact yn h
 |func f=>simp[ev]at h;subst h;simp only[Act.eval,RV];exact⟨#[],rfl,by simp only[dJ]⟩
 |global g=>simp[ev]at h
theorem Di{v:V}{d:D}(h:R5 v=some d):v = .d d:=by cases v<;>simp[R5]at h;subst h;rfl
theorem Dj:∀{vs:List V} {ds:List D},ze vs=some ds->vs=ds.map .d
 | [],ds,h=>by simp[ze]at h;subst h;rfl
 |v::vs,ds,h=>by
  simp only[ze]at h;split at h
  ·rename_i d r hd hr;simp at h;subst h;rw[Di hd,Dj hr];rfl
  ·simp at h
section
variable {P : Program} {w : World} {G : Sg} {t : TypeId}
def Yl(P:Program)(w:World)(G:Sg)(s:Sem Value)(v:V):Prop:=∃x,s.run P w = .ok x w/\RV G v x
theorem Rm{c a b v:V}{vc va vb:Value}(hc:RV G c vc)(ha:RV G a va)(hb:RV G b vb)(h:yl c a b=some v):
  Yl P w G (do pure (if <-asBool vc then va else vb)) v:=by
 cases c<;>simp[yl]at h;rename_i x;cases x<;>simp at h;rename_i t;simp only[RV,RD]at hc;subst hc;cases t<;>simp at h<;>subst h
 ·exact⟨vb,by simp[asBool],hb⟩
 ·exact⟨va,by simp[asBool],ha⟩
theorem sa(x:List UInt8):(⟨x.toArray⟩:ByteArray).toList=x:=by rw[ByteArray.toList_eq]
theorem Qr{op:BinOp}{k:IntKind}{a b:Int}{v:V}{t:TypeId}(h:M7 op k a b=some v):Yl P w G (binOp op t (.int k a) (.int k b)) v:=by
 cases op<;>simp[M7]at h
 case quo=>obtain⟨hb,rfl⟩:=h;simp[Yl,binOp,Op.intDiv,hb,RV,RD]
 case rem=>obtain⟨hb,rfl⟩:=h;simp[Yl,binOp,Op.intDiv,hb,RV,RD]
 all_goals (subst h;simp[Yl,binOp,Op.intArith,Op.intBits,Op.intCmp,RV,RD])
theorem Pg{op:BinOp}{k j:IntKind}{a b:Int}{v:V}{t:TypeId}(h:UL op k a b=some v):Yl P w G (binOp op t (.int k a) (.int j b)) v:=by
 unfold UL at h;split at h
 ·simp at h
 ·rename_i hb;cases op<;>simp at h
  all_goals (subst h;simp[Yl,binOp,Op.shift,hb,RV,RD])
theorem Qu{op:BinOp}{x y:List UInt8}{v:V}{t:TypeId}(h:Qt op x y=some v):Yl P w G (binOp op t (.string ⟨x.toArray⟩) (.string ⟨y.toArray⟩)) v:=by
 cases op<;>simp[Qt]at h
 case add=>
  obtain⟨hl,rfl⟩:=h;refine⟨.string ⟨(x++y).toArray⟩,?_,by simp only[RV,RD]⟩;have hmx:IntKind.i64.max=9223372036854775807:=rfl;have h1:¬(IntKind.i64.max<((x.length+y.length:Nat):Int)):=by omega
  have h2:(⟨x.toArray⟩:ByteArray)++⟨y.toArray⟩=⟨(x++y).toArray⟩:=by apply ByteArray.ext;simp
  have hs:∀z:List UInt8,(⟨z.toArray⟩:ByteArray).size=z.length:=λ z=>rfl;simp only[binOp,Op.stringOp,hs,gt_iff_lt];rw[if_neg h1,h2];simp
 all_goals (subst h;simp[Yl,binOp,Op.stringOp,RV,RD])
theorem HF(h:kindOf P t=1):P.underlying t=some .bool:=by unfold kindOf at h;split at h<;>simp_all
theorem HG(h:kindOf P t=2):∃k,P.underlying t=some (.int k):=by unfold kindOf at h;split at h<;>simp_all
theorem CB(h:kindOf P t=3):P.underlying t=some .string:=by unfold kindOf at h;split at h<;>simp_all
theorem Tm{d:Nat}{t:TypeId}{a b:D}{r:Bool}{x y:Value}(ha:RD G.F a x)(hb:RD G.F b y)(h:VY (kindOf P t) a b=some r):
  (Op.equalIn (d+1) t x y).run P w = .ok r w:=by
 unfold VY at h;split at h
 ·rename_i e;simp at h;subst h;simp only[RD]at ha hb;subst ha;subst hb;exact run_equalIn_bool' w _ t _ _ (HF e)
 ·rename_i e;simp at h;obtain⟨rfl,rfl⟩:=h;simp only[RD]at ha hb;subst ha;subst hb;obtain⟨k,hk⟩:=HG e;exact run_equalIn_int w _ t _ _ _ _ hk
 ·rename_i e;simp at h;subst h;simp only[RD]at ha hb;subst ha;subst hb;rw[run_equalIn_string w _ t _ _ (CB e),sa,sa]
 ·simp at h
theorem Jq{d:Nat}{X Y:Array Value}:∀(fs:List Field) (i:Nat) (xs ys:List D) (r:Bool),
  (∀ f ∈ fs.zipIdx i, f.1.name ≠ "_" ∧ f.1.offset = f.2 ∧ kindOf P f.1.type ≠ 0) →
  (∀(j:Nat) c,xs[j]?=some c->∃v,X[i+j]?=some v/\RD G.F c v)->(∀(j:Nat) c,ys[j]?=some c->∃v,Y[i+j]?=some v/\RD G.F c v)->
  Cf (fs.map λ f=>kindOf P f.type) xs ys=some r->(Op.eqFields (d+1) X Y fs).run P w = .ok r w
 | [],i,xs,ys,r,_,_,_,h=>by
  cases xs<;>cases ys<;>simp[Cf]at h;subst h;simp[Op.eqFields]
 |f::fs,i,[],ys,r,_,_,_,h=>by simp[Cf]at h
 |f::fs,i,x::xs,[],r,_,_,_,h=>by simp[Cf]at h
 |f::fs,i,x::xs,y::ys,r,hf,hx,hy,h=>by
  simp only[List.map_cons,Cf]at h;split at h
  ·rename_i a b ha hb;simp at h;subst h;obtain⟨hn,ho,hk⟩:=hf (f,i) (by simp);dsimp only at hn ho hk;obtain⟨vx,hx0,hrx⟩:=hx 0 x rfl;obtain⟨vy,hy0,hry⟩:=hy 0 y rfl;have hag:(isAgg f.type).run P w = .ok false w:=by unfold kindOf at hk;split at hk<;>rename_i hu<;>first|(simp[isAgg,run_underlying hu];done)|simp at hk
   have p1:(part f.type X f.offset).run P w = .ok vx w:=by simp only[part,Sem.run_bind,hag,Result.andThen_ok,Bool.false_eq_true,if_false,ho];simp only[Nat.add_zero]at hx0;rw[hx0];simp
   have p2:(part f.type Y f.offset).run P w = .ok vy w:=by simp only[part,Sem.run_bind,hag,Result.andThen_ok,Bool.false_eq_true,if_false,ho];simp only[Nat.add_zero]at hy0;rw[hy0];simp
   have p3:=Tm (d:=d) (w:=w) hrx hry ha
   have ih:=Jq (d:=d) fs (i+1) xs ys b (λ g hg=>hf g (by simp[hg]))
    (λ j c hj=>by obtain⟨v,e,hr⟩:=hx (j+1) c (by simpa using hj);exact⟨v,by rw[Nat.add_assoc,Nat.add_comm 1 j];exact e,hr⟩)
    (λ j c hj=>by obtain⟨v,e,hr⟩:=hy (j+1) c (by simpa using hj);exact⟨v,by rw[Nat.add_assoc,Nat.add_comm 1 j];exact e,hr⟩) hb
   simp only[Op.eqFields,Sem.run_ite,Sem.run_bind,p1,p2,p3,Result.andThen_ok];rw[if_pos hn];cases a
   ·simp
   ·simpa using ih
  ·simp at h
theorem SY{op:BinOp}{t:TypeId}{x y:Operand}{a b v:V}{va vb:Value}{bt:List Nat}(hbt:Na P t=some bt)(ha:RV G a va)(hb:RV G b vb)(h:k5 bt op a b=some v):
  Yl P w G (do eqGuard op t x y va vb;binOp op t va vb) v:=by
 unfold k5 at h;split at h
 ·simp only[RV,RD]at ha hb;subst ha;subst hb;have hg:∀s:Sem Value,Yl P w G s v->∀k j n m,Yl P w G (do eqGuard op t x y (.int k n) (.int j m);s) v:=by rintro s ⟨z,hz,hr⟩ k j n m;exact⟨z,by cases op<;>simp[eqGuard,hz],hr⟩
  split at h
  ·exact hg _ (Pg h) _ _ _ _
  ·exact hg _ (Pg h) _ _ _ _
  ·split at h
   ·rename_i e;subst e;exact hg _ (Qr h) _ _ _ _
   ·simp at h
 ·simp only[RV,RD]at ha hb;subst ha;subst hb;obtain⟨z,hz,hr⟩:=Qu (P:=P) (w:=w) (G:=G) (t:=t) h;exact⟨z,by cases op<;>simp[eqGuard,hz],hr⟩
 ·simp only[RV,RD]at ha hb;subst ha;subst hb;split at h
  ·rename_i e;have hu:P.underlying t=some .bool:=by unfold Na at hbt;subst e;split at hbt<;>simp_all
   split at h<;>simp at h<;>subst h
   ·simp[Yl,eqGuard,binOp,Op.equal,Op.maxDepth,run_equalIn_bool' w 9999 t _ _ hu,RV,RD]
   ·simp[Yl,eqGuard,binOp,Op.equal,Op.maxDepth,run_equalIn_bool' w 9999 t _ _ hu,RV,RD]
  ·simp at h
 ·rename_i xs ys;split at h
  ·rename_i ks;have hu:∃fs,P.underlying t=some (.struct fs)/\rj P t=true/\ks=fs.toList.map (λ f=>kindOf P f.type):=by unfold Na at hbt;split at hbt<;>simp_all
   obtain⟨fs,hfs,hfl,rfl⟩:=hu;simp only[rj,hfs,Bool.and_eq_true,Bool.not_eq_true']at hfl;obtain⟨⟨h1,h2⟩,h3⟩:=hfl;simp only[RV,RD]at ha hb;obtain⟨X,rfl,hX⟩:=ha;obtain⟨Y,rfl,hY⟩:=hb;have hof:P.fieldsOf t=fs:=by simp[Program.fieldsOf,hfs]
   have key:∀r,Cf (fs.toList.map λ f=>kindOf P f.type) xs ys=some r->(Op.equalIn 10000 t (.agg X) (.agg Y)).run P w = .ok r w:=by
    intro r hr;rw[show (10000:Nat)=9999+1 from rfl,run_equalIn_agg w 9999 t X Y (by rw[hof];exact hfs) h1,hof];refine Jq (d:=9998) (G:=G) fs.toList 0 xs ys r ?_ ?_ ?_ hr
    ·intro f hf;have:=List.all_eq_true.1 h3 f hf;simpa[and_assoc]using this
    ·intro j c hj;obtain⟨v,e,hr⟩:=dI.get hX hj;exact⟨v,by simpa using e,hr⟩
    ·intro j c hj;obtain⟨v,e,hr⟩:=dI.get hY hj;exact⟨v,by simpa using e,hr⟩
   have hg:(eqGuard op t x y (.agg X) (.agg Y)).run P w = .ok () w:=run_eqGuard_agg w op t x y X Y h2;split at h
   ·rename_i r hr;simp at h;subst h;refine⟨.bool r,?_,by simp only[RV,RD]⟩;simp only[Sem.run_bind,hg,Result.andThen_ok,run_eql_struct,key r hr]
   ·rename_i r hr;simp at h;subst h;refine⟨.bool (!r),?_,by simp only[RV,RD]⟩;simp only[Sem.run_bind,hg,Result.andThen_ok,run_neq_struct,key r hr]
   ·simp at h
  ·simp at h
 ·simp at h
end
section
variable {P : Program} {w : World} {G : Sg} {t : TypeId}
theorem VJ{op:UnOp}{a v:V}{va:Value}(ha:RV G a va)(h:TX op a=some v):Yl P w G (Op.unary op va) v:=by
 unfold TX at h;split at h<;>simp at h<;>subst h<;>simp only[RV,RD]at ha<;>subst ha
 ·simp[Yl,Op.unary,Op.intArith,RV,RD]
 ·simp[Yl,Op.unary,Op.intBits,RV,RD]
 ·simp[Yl,Op.unary,RV,RD]
theorem Qz{s d:TypeId}{s' d':TypeDesc}{a v:V}{va:Value}(hs:P.underlying s=some s')(hd:P.underlying d=some d')(ha:RV G a va)(h:yk s' d' a=some v):Yl P w G (convert s d va) v:=by
 unfold yk at h;split at h
 ·split at h<;>simp at h;subst h;simp only[RV,RD]at ha;subst ha;simp[Yl,convert,run_underlying hs,run_underlying hd,Conv.intToInt,RV,RD]
 ·split at h<;>simp at h;subst h;simp only[RV,RD]at ha;subst ha;simp[Yl,convert,run_underlying hs,run_underlying hd,Conv.intToString,RV,RD]
 ·split at h<;>simp at h;subst h;simp only[RV,RD]at ha;subst ha;simp[Yl,convert,run_underlying hs,run_underlying hd,RV,RD]
 ·simp at h
theorem KO(x:List UInt8)(n:Nat):(⟨x.toArray⟩:ByteArray)[n]?=x[n]?:=by
 by_cases h:n<x.length
 ·have h':n<(⟨x.toArray⟩:ByteArray).size:=h;rw[getElem?_pos (⟨x.toArray⟩:ByteArray) n h',List.getElem?_eq_getElem h];rfl
 ·have h':¬n<(⟨x.toArray⟩:ByteArray).size:=h;rw[getElem?_neg (⟨x.toArray⟩:ByteArray) n h',List.getElem?_eq_none (by omega)]
theorem N2{a i v:V}{va vi:Value}(hu:P.underlying t=some .string)(ha:RV G a va)(hi:RV G i vi)(h:p8 a i=some v):Yl P w G (Instr.index t va vi) v:=by
 unfold p8 at h;split at h
 ·simp only[RV,RD]at ha hi;subst ha;subst hi;split at h
  ·rename_i hn;simp at h;obtain⟨c,hc,rfl⟩:=h;simp[Yl,Instr.index,asIntOf,run_underlying hu,hn,KO,hc,RV,RD]
  ·simp at h
 ·simp at h
theorem F7{xs:List D}{sz:Nat}(h:sized xs sz){i:Nat}{x:D}(hi:xs[i]?=some x):x.width=sz:=h x (List.mem_of_getElem? hi)
theorem Cz{e:TypeId}{sz:Nat}{a i v:V}{va vi:Value}(hu:P.underlying t=some (.slice e))(hsz:bZ P e=some sz)(ha:RV G a va)(hi:RV G i vi)(h:hJ sz a i=some v):
  Yl P w G (Instr.indexAt t va vi) v:=by
 unfold hJ at h;split at h
 ·rename_i fl xs k n;simp only[RV,RD]at hi;subst hi;split at h
  ·rename_i hn;split at h
   ·rename_i x hx;split at h
    ·rename_i hw;simp at h;subst h;simp only[RV,RD]at ha;obtain⟨A,m,c,sz',rfl,rfl,hc,hfull,hs,hr⟩:=ha;have hne:xs≠[]:=by intro e;subst e;simp at hx
     obtain⟨blk,off,rfl,hel⟩:=hr hne;have hlt:n.toNat<xs.length:=(List.getElem?_eq_some_iff.1 hx).1;have hszz:sz'=sz:=by rw[<-F7 hs hx,hw]
     subst hszz;refine⟨.pointer (some ⟨blk,off+n.toNat*sz',none⟩),?_,?_⟩
     ·simp only[Instr.indexAt,asIntOf,Sem.run_bind,Sem.run_pure,Result.andThen_ok,run_underlying hu];rw[if_pos ⟨hn,by omega⟩];simp[cJ hsz,Addr.add_plain]
     ·simp only[RV];exact⟨blk,off,sz',by simp,hs,hel⟩
    ·simp at h
   ·simp at h
  ·simp at h
 ·rename_i id off len k n;simp only[RV,RD]at hi;subst hi;split at h
  ·rename_i hc;obtain⟨rfl,hn0,hn1⟩:=hc;simp at h;subst h;simp only[RV]at ha;obtain⟨A,c,rfl,hc,hb⟩:=ha;obtain⟨blk,ho,rfl⟩:=hb (by omega);refine⟨.pointer (some ⟨blk,off+n.toNat,none⟩),?_,by simp only[RV];exact⟨blk,ho,rfl⟩⟩;simp only[Instr.indexAt,asIntOf,Sem.run_bind,Sem.run_pure,Result.andThen_ok,run_underlying hu];rw[if_pos ⟨hn0,hn1⟩];simp[cJ hsz,Addr.add_plain]
  ·simp at h
 ·simp at h
theorem zF{e:TypeId}{len sz:Nat}{a i v:V}{va vi:Value}(hu:P.underlying t=some (.array len e))(hsz:bZ P e=some sz)(ha:RV G a va)(hi:RV G i vi)(h:gp len sz a i=some v):
  Yl P w G (Instr.indexAt t va vi) v:=by
 unfold gp at h;split at h
 ·rename_i id off k n;simp only[RV,RD]at hi;subst hi;split at h
  ·rename_i hc;simp at h;subst h;simp only[RV]at ha;obtain⟨blk,ho,rfl⟩:=ha;refine⟨.pointer (some ⟨blk,off+n.toNat*sz,none⟩),?_,by simp only[RV];exact⟨blk,ho,rfl⟩⟩;simp only[Instr.indexAt,asIntOf,Sem.run_bind,Sem.run_pure,Result.andThen_ok,run_underlying hu,Instr.sureAddr];rw[if_pos hc];simp[cJ hsz,Addr.add_plain]
  ·simp at h
 ·rename_i xs j off k n;simp only[RV,RD]at hi;subst hi;split at h
  ·rename_i hc;simp at h;subst h;simp only[RV]at ha;obtain⟨blk,o,sz',rfl,hs,hr⟩:=ha;refine⟨.pointer (some ⟨blk,o+j*sz'+(off+n.toNat*sz),none⟩),?_,by simp only[RV];exact⟨blk,o,sz',rfl,hs,hr⟩⟩;simp only[Instr.indexAt,asIntOf,Sem.run_bind,Sem.run_pure,Result.andThen_ok,run_underlying hu,Instr.sureAddr];rw[if_pos hc];simp[cJ hsz,Addr.add_plain,Nat.add_assoc]
  ·simp at h
 ·simp at h
theorem Co{fs:Array Field}{f:Nat}{g:Field}{n:Nat}{a v:V}{va:Value}(hu:P.underlying t=some (.struct fs))(hf:fs[f]?=some g)(hsz:bZ P g.type=some n)(hn:n≠0)(ha:RV G a va)(h:pn g.offset a=some v):
  Yl P w G (Instr.fieldAt t va f) v:=by
 unfold pn at h;split at h<;>simp at h<;>subst h<;>simp only[RV]at ha
 ·obtain⟨blk,ho,rfl⟩:=ha;refine⟨.pointer (some ⟨blk,_+g.offset,none⟩),?_,by simp only[RV];exact⟨blk,ho,rfl⟩⟩;simp[Instr.fieldAt,run_underlying hu,hf,Instr.sureAddr,fieldPlace,cJ hsz,hn,Addr.add_plain]
 ·rename_i xs i off;obtain⟨blk,o,sz,rfl,hs,hr⟩:=ha;refine⟨.pointer (some ⟨blk,o+i*sz+(off+g.offset),none⟩),?_,by simp only[RV];exact⟨blk,o,sz,rfl,hs,hr⟩⟩;simp[Instr.fieldAt,run_underlying hu,hf,Instr.sureAddr,fieldPlace,cJ hsz,hn,Addr.add_plain,Nat.add_assoc]
theorem dI.sub{F:Fz}{cs:List D}{vs:List Value}(h:dI F cs vs)(o n:Nat):dI F ((cs.drop o).take n) ((vs.drop o).take n):=by
 have hl:=dI.length h;refine dI.of_get (by simp[hl]) λ i x hi=>?_;have hi':i<n:=by
  rcases Nat.lt_or_ge i n with h' | h'
  ·exact h'
  ·rw[List.getElem?_eq_none (by simp;omega)]at hi;simp at hi
 rw[List.getElem?_take_of_lt hi',List.getElem?_drop]at hi⊢;exact dI.get h hi
theorem NT{fs:Array Field}{f:Nat}{g:Field}{n:Nat}{ag:Bool}{a v:V}{va:Value}(hu:P.underlying t=some (.struct fs))(hf:fs[f]?=some g)(hsz:bZ P g.type=some n)(hag:mn P g.type=some ag)(ha:RV G a va)(h:nS g.offset n ag a=some v):
  Yl P w G (Instr.field t va f) v:=by
 unfold nS at h;split at h
 ·rename_i cs;simp only[RV,RD]at ha;obtain⟨vs,rfl,hr⟩:=ha;cases ag
  ·simp at h;obtain⟨c,hc,rfl⟩:=h;obtain⟨y,hy,hry⟩:=dI.get hr hc;have hy':vs[g.offset]?=some y:=by simpa using hy
   exact⟨y,by simp[Instr.field,run_underlying hu,hf,asAgg,part,ie hag,hy'],by simpa only[RV]using hry⟩
  ·simp at h;obtain⟨hle,rfl⟩:=h;refine⟨.agg (vs.extract g.offset (g.offset+n)),by simp[Instr.field,run_underlying hu,hf,asAgg,part,ie hag,cJ hsz],?_⟩;simp only[RV,RD];refine⟨_,rfl,?_⟩;have:=dI.sub hr g.offset n;simpa[Array.toList_extract,List.extract_eq_take_drop]using this
 ·simp at h
theorem JE{S:List Ob}(hI:Inv w G S){n:Nat}{ag:Bool}{a v:V}{va:Value}(hsz:bZ P t=some n)(hag:mn P t=some ag)(ha:RV G a va)(h:gq ag n S a=some v):
  Yl P w G (Instr.loadAt t va) v:=by
 unfold gq at h;split at h
 ·rename_i xs i off;split at h
  ·rename_i x hx;simp only[RV]at ha;obtain⟨blk,o,sz,rfl,hs,hr⟩:=ha;have hat:=nq.1 (bL.get hs hr hx);cases ag
   ·simp at h;obtain⟨c,hc,rfl⟩:=h;obtain⟨y,hy,hry⟩:=cR.get hat hc;have hcell:=hI.fz _ _ _ hy;refine⟨y,?_,by simpa only[RV]using hry⟩;simp[Instr.loadAt,Instr.sureAddr,loadVar,ie hag,hcell]
   ·simp at h;obtain⟨hle,rfl⟩:=h;have hrow:∀j,j<n->∃y,w.cell? ⟨blk,(o+i*sz+off)+j,none⟩=some y/\∃c,(x.cells)[off+j]?=some c/\RD G.F c y:=by
     intro j hj;have hlt:off+j<x.cells.length:=by rw[D.cells_length];omega
     obtain⟨y,hy,hry⟩:=cR.get hat (List.getElem?_eq_getElem hlt);exact⟨y,by have:=hI.fz _ _ _ hy;rwa[Nat.add_assoc],_,List.getElem?_eq_getElem hlt,hry⟩
    obtain⟨l,hl,h1,h2⟩:=mz n hrow;refine⟨.agg l.toArray,?_,?_⟩
    ·simp[Instr.loadAt,Instr.sureAddr,loadVar,ie hag,cJ hsz,run_loadCells hl h1]
    ·simp only[RV,RD];refine⟨_,rfl,dI.of_get (by simp[hl,D.cells_length];omega) λ j c hj=>?_⟩;have hjn:j<n:=by
      rcases Nat.lt_or_ge j n with h' | h'
      ·exact h'
      ·rw[List.getElem?_eq_none (by simp;omega)]at hj;simp at hj
     obtain⟨y,hy,c',hc',hrc⟩:=h2 j hjn;rw[List.getElem?_take_of_lt hjn,List.getElem?_drop,hc']at hj;simp at hj;subst hj;exact⟨y,by simpa using hy,hrc⟩
  ·simp at h
 ·rename_i id off;split at h
  ·rename_i cs fl hob;simp only[RV]at ha;obtain⟨blk,ho,rfl⟩:=ha;obtain⟨_,o',go,hs',hgo,hor⟩:=hI.ob _ _ ho;rw[hob]at hs';simp at hs';subst hs';cases go<;>simp only[gI]at hor;rename_i arr el fz;obtain⟨hlen,hcells,_⟩:=hor;have hcell:∀j c,cs[j]?=some c->∃y,w.cell? ⟨blk,j,none⟩=some y/\RV G c y:=by intro j c hj;obtain⟨y,hy,hry,_,_⟩:=hcells j c hj;exact⟨y,by simp[World.cell?,hgo,hy],hry⟩
   cases ag
   ·simp at h;obtain⟨y,hy,hry⟩:=hcell _ _ h;exact⟨y,by simp[Instr.loadAt,Instr.sureAddr,loadVar,ie hag,hy],hry⟩
   ·simp at h;obtain⟨hle,ds,hds,rfl⟩:=h;have hmap:=Dj hds;have hdl:ds.length=n:=by have:=congrArg List.length hmap;simp at this;omega
    have hrow:∀j,j<n->∃y,w.cell? ⟨blk,off+j,none⟩=some y/\∃c,ds[j]?=some c/\RD G.F c y:=by
     intro j hj;have hlt:j<ds.length:=by omega
     have e1:((cs.drop off).take n)[j]?=some (.d ds[j]):=by rw[hmap];simp[List.getElem?_eq_getElem hlt]
     rw[List.getElem?_take_of_lt hj,List.getElem?_drop]at e1;obtain⟨y,hy,hry⟩:=hcell _ _ e1;exact⟨y,hy,_,List.getElem?_eq_getElem hlt,by simpa only[RV]using hry⟩
    obtain⟨l,hl,h1,h2⟩:=mz n hrow;refine⟨.agg l.toArray,?_,?_⟩
    ·simp[Instr.loadAt,Instr.sureAddr,loadVar,ie hag,cJ hsz,run_loadCells hl h1]
    ·simp only[RV,RD];refine⟨_,rfl,dI.of_get (by simp[hl,hdl]) λ j c hj=>?_⟩;have hjn:j<n:=by have:=(List.getElem?_eq_some_iff.1 hj).1;omega
     obtain⟨y,hy,c',hc',hrc⟩:=h2 j hjn;rw[hc']at hj;simp at hj;subst hj;exact⟨y,by simpa using hy,hrc⟩
  ·simp at h
 ·simp at h
end
theorem dI.append{F:Fz}{xs ys:List D}{vs us:List Value}(h:dI F xs vs)(k:dI F ys us):dI F (xs++ys) (vs++us):=by
 have hl:=dI.length h;refine dI.of_get (by simp[hl,dI.length k]) λ i x hi=>?_;rcases Nat.lt_or_ge i xs.length with h' | h'
 ·rw[List.getElem?_append_left h']at hi;obtain⟨v,hv,hr⟩:=dI.get h hi;exact⟨v,by rw[List.getElem?_append_left (by omega)];exact hv,hr⟩
 ·rw[List.getElem?_append_right h']at hi;obtain⟨v,hv,hr⟩:=dI.get k hi;exact⟨v,by rw[List.getElem?_append_right (by omega),hl];exact hv,hr⟩
theorem dI.take{F:Fz}{xs:List D}{vs:List Value}(h:dI F xs vs)(n:Nat):dI F (xs.take n) (vs.take n):=by simpa using dI.sub h 0 n
theorem dI.drop{F:Fz}{xs:List D}{vs:List Value}(h:dI F xs vs)(n:Nat):dI F (xs.drop n) (vs.drop n):=by
 have:=dI.sub h n (xs.length+vs.length)
 rwa[List.take_of_length_le (by simp;omega),List.take_of_length_le (by simp;omega)]at this
theorem qo{F:Fz}{blk:Nat}:∀{xs ys:List D} {off:Nat},cR F blk off (xs++ys)↔cR F blk off xs/\cR F blk (off+xs.length) ys
 | [],ys,off=>by simp[cR]
 |x::xs,ys,off=>by
  simp only[List.cons_append,cR,qo,List.length_cons,and_assoc];rw[show off+1+xs.length=off+(xs.length+1) by omega]
theorem ka{F:Fz}{blk:Nat}:∀{xs:List D} {off:Nat},bL F blk off xs↔cR F blk off (xs.flatMap D.cells)
 | [],off=>by simp[bL,cR]
 |x::xs,off=>by
  rw[gQ,List.flatMap_cons,qo,nq,ka,D.cells_length]
theorem gW{sz:Nat}:∀{xs:List D},sized xs sz->(xs.flatMap D.cells).length=xs.length*sz
 | [],_=>by simp
 |x::xs,h=>by
  rw[List.flatMap_cons,List.length_append,gW (λ y hy=>h y (by simp[hy])),D.cells_length,h x (by simp),List.length_cons,Nat.add_mul];omega
section
variable {P : Program} {w : World} {G : Sg} {t : TypeId}
theorem nM{sz sz':Nat}{xs:List D}(h:bw sz xs=true)(hs:sized xs sz'):sized xs sz:=by
 cases xs with
 |nil=>intro x hx;simp at hx
 |cons x xs=>
  simp[bw]at h;have:sz'=sz:=by rw[<-hs x (by simp),h]
  exact this▸hs
theorem cR.row{F:Fz}(hF:∀b o v,F b o=some v->w.cell? ⟨b,o,none⟩=some v){blk off:Nat}{cs:List D}(h:cR F blk off cs):
  ∃l:List Value,l.length=cs.length/\(∀(j:Nat) v,l[j]?=some v->w.cell? ⟨blk,off+j,none⟩=some v)/\dI F cs l:=by
 obtain⟨l,hl,h1,h2⟩:=mz (w:=w) (R:=λ j v=>∃c,cs[j]?=some c/\RD F c v) (b:=blk) (o:=off) cs.length λ j hj=>by
  obtain⟨v,hv,hr⟩:=cR.get h (List.getElem?_eq_getElem hj);exact⟨v,hF _ _ _ hv,_,List.getElem?_eq_getElem hj,hr⟩
 refine⟨l,hl,h1,dI.of_get hl λ i x hi=>?_⟩;obtain⟨v,hv,c,hc,hr⟩:=h2 i (List.getElem?_eq_some_iff.1 hi).1;rw[hc]at hi;simp at hi;subst hi;exact⟨v,hv,hr⟩
theorem wR{S:List Ob}(hI:Inv w G S){sz:Nat}{v:V}{va:Value}{xs:List D}(hv:RV G v va)(h:view S sz v=some xs)(hh:bw sz xs=true):
  ∃a c,va = .slice a xs.length c/\xs.length<=c/\sized xs sz/\∃l:List Value,l.length=xs.length*sz/\(Builtin.firstCells sz xs.length va).run P w = .ok l.toArray w/\dI G.F (xs.flatMap D.cells) l:=by
 unfold view at h;split at h
 ·rename_i fl ys;simp at h;obtain rfl:xs=ys:=h.symm;simp only[RV,RD]at hv;obtain⟨a,n,c,sz',rfl,rfl,hc,_,hs,hr⟩:=hv;have hs':=nM hh hs;refine⟨a,c,rfl,hc,hs',?_⟩;by_cases hne:xs=[]
  ·subst hne;refine⟨[],by simp,?_,by simp only[List.flatMap_nil,dI]⟩;cases a<;>simp[Builtin.firstCells,loadCells,loadCellsFrom]
  ·obtain⟨blk,off,rfl,hel⟩:=hr hne;obtain⟨l,hl,h1,h2⟩:=cR.row hI.fz (ka.1 hel);rw[gW hs']at hl;exact⟨l,hl,by simp[Builtin.firstCells,run_loadCells hl h1],h2⟩
 ·rename_i id off len;split at h
  ·rename_i cs fl hob;split at h
   ·rename_i hsz1;split at h
    ·rename_i hle;subst hsz1;have hmap:=Dj h;have hxl:xs.length=len:=by have:=congrArg List.length hmap;simp at this;omega
     simp only[RV]at hv;obtain⟨a,c,rfl,hc,hb⟩:=hv;by_cases h0:len=0
     ·have:xs=[]:=List.length_eq_zero_iff.1 (by omega)
      subst this;refine⟨a,c,by rw[h0];rfl,by simp,by intro x hx;simp at hx,[],by simp,?_,by simp only[List.flatMap_nil,dI]⟩;cases a<;>simp[Builtin.firstCells,loadCells,loadCellsFrom]
     ·obtain⟨blk,ho,rfl⟩:=hb (by omega)
      obtain⟨_,o',go,hs',hgo,hor⟩:=hI.ob _ _ ho;rw[hob]at hs';simp at hs';subst hs';cases go<;>simp only[gI]at hor;rename_i arr el fz;obtain⟨hlen,hcells,_⟩:=hor;have hx1:∀j (x:D),xs[j]?=some x->cs[off+j]?=some (.d x):=by
       intro j x hj;have hlt:j<len:=by rw[<-hxl];exact(List.getElem?_eq_some_iff.1 hj).1
       have:((cs.drop off).take len)[j]?=some (.d x):=by rw[hmap];simp[hj]
       rwa[List.getElem?_take_of_lt hlt,List.getElem?_drop]at this
      have hw1:sized xs 1:=by intro x hx;obtain⟨j,hj⟩:=List.mem_iff_getElem?.1 hx;obtain⟨_,_,_,_,hone⟩:=hcells _ _ (hx1 j x hj);cases x<;>simp[V.one]at hone<;>rfl
      have hflat:xs.flatMap D.cells=xs:=by
       have:∀ys:List D,sized ys 1->(∀y∈ys,y.cells=[y])->ys.flatMap D.cells=ys:=by
        intro ys _ hy
        induction ys with
        |nil=>rfl
        |cons y ys ih=>rw[List.flatMap_cons,hy y (by simp),ih (λ z hz=>by rename_i h;exact h z (by simp[hz])) (λ z hz=>hy z (by simp[hz]))];rfl
       refine this xs hw1 λ y hy=>?_;obtain⟨j,hj⟩:=List.mem_iff_getElem?.1 hy;obtain⟨_,_,_,_,hone⟩:=hcells _ _ (hx1 j y hj);cases y<;>simp[V.one]at hone<;>rfl
      obtain⟨l,hl,h1,h2⟩:=mz (w:=w) (R:=λ j v=>∃c,xs[j]?=some c/\RD G.F c v) (b:=blk) (o:=off) len λ j hj=>by
       have hj':j<xs.length:=by omega
       obtain⟨y,hy,hry,_,_⟩:=hcells _ _ (hx1 j xs[j] (List.getElem?_eq_getElem hj'));exact⟨y,by simp[World.cell?,hgo,hy],_,List.getElem?_eq_getElem hj',by simpa only[RV]using hry⟩
      refine⟨_,c,by rw[hxl],by omega,hw1,l,by omega,?_,?_⟩
      ·simp[Builtin.firstCells,hxl,run_loadCells hl h1]
      ·rw[hflat];refine dI.of_get (by omega) λ j x hj=>?_;have hlt:j<len:=by rw[<-hxl];exact(List.getElem?_eq_some_iff.1 hj).1
       obtain⟨y,hy,c',hc',hrc⟩:=h2 j hlt;rw[hj]at hc';simp at hc';subst hc';exact⟨y,hy,hrc⟩
    ·simp at h
   ·simp at h
  ·split at h
   ·rename_i h0;simp at h;subst h;subst h0;simp only[RV]at hv;obtain⟨a,c,rfl,hc,hb⟩:=hv;refine⟨a,c,rfl,by simp,by intro x hx;simp at hx,[],by simp,?_,by simp only[List.flatMap_nil,dI]⟩;cases a<;>simp[Builtin.firstCells,loadCells,loadCellsFrom]
   ·simp at h
 ·simp at h
theorem TG{S:List Ob}(hI:Inv w G S){d:TypeDesc}{a v:V}{va:Value}{ty:TypeId}(hu:P.underlying t=some d)(ha:RV G a va)(h:Fj d S a=some v):Yl P w G (Builtin.len_ #[t] ty #[va]) v:=by
 unfold Fj at h;split at h
 ·rename_i x;simp at h;subst h;simp only[RV,RD]at ha;subst ha;have hsz:(⟨x.toArray⟩:ByteArray).size=x.length:=rfl;simp[Yl,Builtin.len_,run_underlying hu,goInt,RV,RD,hsz]
 ·simp at h;subst h;simp only[RV,RD]at ha;obtain⟨A,n,c,sz,rfl,rfl,_⟩:=ha;simp[Yl,Builtin.len_,run_underlying hu,goInt,RV,RD]
 ·simp at h;subst h;simp only[RV]at ha;obtain⟨A,c,rfl,_⟩:=ha;simp[Yl,Builtin.len_,run_underlying hu,goInt,RV,RD]
 ·simp at h;subst h;simp[Yl,Builtin.len_,run_underlying hu,goInt,RV,RD]
 ·split at h
  ·rename_i id es hob;simp at h;subst h;simp only[RV]at ha;obtain⟨blk,ho,rfl⟩:=ha;obtain⟨_,o',go,hs',hgo,hor⟩:=hI.ob _ _ ho;rw[hob]at hs';simp at hs';subst hs';cases go<;>simp only[gI]at hor;rename_i ents clock;simp[Yl,Builtin.len_,run_underlying hu,goInt,RV,RD,getObj,Sem.run,hgo,hor.1]
  ·simp at h
 ·simp at h;subst h;simp only[RV]at ha;subst ha;simp[Yl,Builtin.len_,run_underlying hu,goInt,RV,RD]
 ·simp at h
theorem TR{a v:V}{va:Value}(ha:RV G a va)(h:OK a=some v):(∃A,va = .pointer (some A))/\RV G v va:=by
 unfold OK at h;split at h<;>simp at h<;>subst h
 ·refine⟨?_,ha⟩;simp only[RV]at ha;obtain⟨blk,_,rfl⟩:=ha;exact⟨_,rfl⟩
 ·refine⟨?_,ha⟩;simp only[RV]at ha;obtain⟨blk,_,_,rfl,_⟩:=ha;exact⟨_,rfl⟩
theorem Ha{a v:V}{va:Value}{i:Nat}(ha:RV G a va)(h:uw a i=some v):Yl P w G (Instr.extract va i) v:=by
 unfold uw at h;split at h
 ·simp only[RV]at ha;obtain⟨vs,rfl,hr⟩:=ha;obtain⟨y,hy,hry⟩:=dJ.get hr h;exact⟨y,by simp[Instr.extract];rw[show vs[i]?=some y by simpa using hy];rfl,hry⟩
 ·simp at h
def nk(G:Sg):Option V->Option Value->Prop
 |none,none=>True
 |some v,some x=>RV G v x
 |_,_=>False
theorem DK{v:V}{x:Value}{y n m:Nat}{code:BoundsCode}(hv:RV G v x)(h:nU (some v) m y=some n):(Instr.sliceBound x y code).run P w = .ok n w/\n<=y:=by
 unfold nU at h;split at h
 ·rename_i e;simp at e
 rotate_left
 ·simp at h
 rename_i e;simp at h;obtain⟨⟨h0,h1⟩,rfl⟩:=h;injection e with e
 subst e;simp only[RV,RD]at hv;subst hv;refine⟨?_,by omega⟩;simp[Instr.sliceBound,asIntOf,h0,h1]
theorem jB{isS:Bool}{len cap:Nat}{lo hi:Option V}{lo' hi':Option Value}{l h:Nat}(hlo:nk G lo lo')(hhi:nk G hi hi')(hlc:len<=cap)
  (h2:nU hi len len=some h) (h1:nU lo 0 h=some l):(Instr.sliceBounds isS len cap lo' hi' none).run P w = .ok (l,h,cap) w/\l<=h/\h<=len:=by
 have b2:(match hi' with|some v=>Instr.sliceBound v cap (if isS then .sliceAcap else .sliceAlen)|none=>pure len:Sem Nat).run P w = .ok h w/\h<=len:=by
  cases hi with
  |none=>
   cases hi' with
   |none=>simp[nU]at h2;subst h2;exact⟨rfl,Nat.le_refl _⟩
   |some x=>exact hhi.elim
  |some v=>
   cases hi' with
   |none=>exact hhi.elim
   |some x=>
    have hle:nU (some v) len cap=some h/\h<=len:=by
     unfold nU at h2;split at h2
     ·rename_i e;simp at e
     rotate_left
     ·simp at h2
     rename_i e;injection e with e;subst e
     simp at h2;obtain⟨⟨p,q⟩,rfl⟩:=h2;refine⟨by simp[nU];omega,by omega⟩
    exact⟨(DK hhi hle.1).1,hle.2⟩
 have b1:(match lo' with|some v=>Instr.sliceBound v h .sliceB|none=>pure 0:Sem Nat).run P w = .ok l w/\l<=h:=by
  cases lo with
  |none=>
   cases lo' with
   |none=>simp[nU]at h1;subst h1;exact⟨rfl,Nat.zero_le _⟩
   |some x=>exact hlo.elim
  |some v=>
   cases lo' with
   |none=>exact hlo.elim
   |some x=>exact DK hlo h1
 obtain⟨e2,hle2⟩:=b2;obtain⟨e1,hle1⟩:=b1;refine⟨?_,hle1,hle2⟩
 cases hi' with
 |none=>
  simp only at e2
  cases lo' with
  |none=>simp at e1 e2;subst e1;subst e2;simp[Instr.sliceBounds]
  |some x=>simp at e1 e2;subst e2;simp[Instr.sliceBounds,e1]
 |some y=>
  cases lo' with
  |none=>simp at e1 e2;subst e1;simp[Instr.sliceBounds,e2]
  |some x=>simp at e1 e2;simp[Instr.sliceBounds,e1,e2]
theorem It{a v:V}{va:Value}{lo hi:Option V}{lo' hi':Option Value}{sz:Nat}(hu:P.underlying t=some .string)(ha:RV G a va)(hs:∃x,a = .d (.s x))(hlo:nk G lo lo')(hhi:nk G hi hi')(h:iM sz a lo hi=some v):
  Yl P w G (Instr.sliceAt t va lo' hi' none) v:=by
 obtain⟨x,rfl⟩:=hs;simp only[RV,RD]at ha;subst ha;simp only[iM]at h;split at h
 ·rename_i hh e2;split at h
  ·rename_i l e1;simp at h;subst h;obtain⟨hb,hl,hh'⟩:=jB (P:=P) (w:=w) (isS:=false) (cap:=x.length) hlo hhi (Nat.le_refl _) e2 e1;have hsz:(⟨x.toArray⟩:ByteArray).size=x.length:=rfl;refine⟨.string ((⟨x.toArray⟩:ByteArray).extract l hh),?_,?_⟩
   ·simp[Instr.sliceAt,Instr.slice,run_underlying hu,hsz,hb]
   ·simp only[RV,RD];congr 1;apply ByteArray.ext;apply Array.toList_inj.1;simp[ByteArray.data_extract,List.extract_eq_take_drop]
  ·simp at h
 ·simp at h
theorem Is{e:TypeId}{a v:V}{va:Value}{lo hi:Option V}{lo' hi':Option Value}{sz:Nat}(hu:P.underlying t=some (.slice e))(hsz:bZ P e=some sz)(ha:RV G a va)(hs:∀x,a ≠ .d (.s x))(hlo:nk G lo lo')(hhi:nk G hi hi')(h:iM sz a lo hi=some v):
  Yl P w G (Instr.sliceAt t va lo' hi' none) v:=by
 unfold iM at h;split at h
 ·exact absurd rfl (hs _)
 ·rename_i fl xs;split at h
  ·rename_i hh e2;split at h
   ·rename_i l e1;split at h
    ·rename_i hw;simp at h;subst h;simp only[RV,RD]at ha;obtain⟨A,n,c,sz',rfl,rfl,hc,_,hs',hr⟩:=ha;obtain⟨hb,hl,hh'⟩:=jB (P:=P) (w:=w) (isS:=true) (cap:=c) hlo hhi hc e2 e1;refine⟨.slice (if c=l then A else A.map (·.add (l*sz))) (hh-l) (c-l),?_,?_⟩
     ·simp[Instr.sliceAt,Instr.slice,run_underlying hu,hb,cJ hsz]
     ·simp only[RV,RD];refine⟨_,_,_,sz',rfl,by simp;omega,by omega,by simp,(hs'.drop l).take _,λ hne=>?_⟩;have hxne:xs≠[]:=by intro e;subst e;simp at hne
      obtain⟨blk,off,rfl,hel⟩:=hr hxne;have hszz:sz'=sz:=by
       cases xs with
       |nil=>exact absurd rfl hxne
       |cons x xs=>simp[bw]at hw;rw[<-hs' x (by simp),hw]
      subst hszz;have hlt:l<xs.length:=by
       rcases Nat.lt_or_ge l xs.length with h' | h'
       ·exact h'
       ·rw[List.drop_eq_nil_of_le h']at hne;simp at hne
      refine⟨blk,off+l*sz',?_,bL.take _ (hs'.drop l) (bL.drop l (by omega) hs' hel)⟩;rw[if_neg (by omega)];simp[Addr.add_plain]
    ·simp at h
   ·simp at h
  ·simp at h
 ·rename_i id off len;split at h
  ·rename_i hh e2;split at h
   ·rename_i l e1;split at h
    ·rename_i hsz1;subst hsz1;simp at h;subst h;simp only[RV]at ha;obtain⟨A,c,rfl,hc,hb⟩:=ha;obtain⟨hbd,hl,hh'⟩:=jB (P:=P) (w:=w) (isS:=true) (cap:=c) hlo hhi hc e2 e1;refine⟨.slice (if c=l then A else A.map (·.add (l*1))) (hh-l) (c-l),?_,?_⟩
     ·simp[Instr.sliceAt,Instr.slice,run_underlying hu,hbd,cJ hsz]
     ·simp only[RV];refine⟨_,_,rfl,by omega,λ hp=>?_⟩;obtain⟨blk,ho,rfl⟩:=hb (by omega);refine⟨blk,ho,?_⟩;rw[if_neg (by omega)];simp[Addr.add_plain]
    ·simp at h
   ·simp at h
  ·simp at h
 ·simp at h
theorem Mp{e:TypeId}{n sz:Nat}{a v:V}{va:Value}{lo hi:Option V}{lo' hi':Option Value}(hu:P.underlying t=some (.array n e))(hsz:bZ P e=some sz)(ha:RV G a va)(hlo:nk G lo lo')(hhi:nk G hi hi')(h:mK n sz a lo hi=some v):
  Yl P w G (Instr.sliceAt t va lo' hi' none) v:=by
 unfold mK at h;split at h
 ·rename_i id off;split at h
  ·rename_i hh e2;split at h
   ·rename_i l e1;split at h
    ·rename_i hsz1;subst hsz1;simp at h;subst h;simp only[RV]at ha;obtain⟨blk,ho,rfl⟩:=ha;obtain⟨hbd,hl,hh'⟩:=jB (P:=P) (w:=w) (isS:=false) (cap:=n) hlo hhi (Nat.le_refl _) e2 e1;refine⟨.slice (some (if n=l then⟨blk,off,none⟩ else(⟨blk,off,none⟩:Addr).add (l*1))) (hh-l) (n-l),?_,?_⟩
     ·simp[Instr.sliceAt,run_underlying hu,Instr.sureAddr,hbd,cJ hsz]
     ·simp only[RV];refine⟨_,_,rfl,by omega,λ hp=>?_⟩;refine⟨blk,ho,?_⟩;rw[if_neg (by omega)];simp[Addr.add_plain]
    ·simp at h
   ·simp at h
  ·simp at h
 ·simp at h
end
def lE(vs:List Value)(off:Nat)(l:List Value):List Value:=vs.take off++l++vs.drop (off+l.length)
theorem EV{vs:List Value}{off:Nat}{l:List Value}(h:off+l.length<=vs.length):(lE vs off l).length=vs.length:=by simp[lE];omega
theorem Kd(A:Array Value)(o:Nat)(v:Value)(l:List Value)(h:o+l.length+1<=A.size):
  lE (A.setIfInBounds o v).toList (o+1) l=lE A.toList o (v::l):=by
 unfold lE;rw[Array.toList_setIfInBounds];have h1:o<A.toList.length:=by simp;omega
 rw[List.take_set,List.drop_set_of_lt (by omega),List.take_succ_eq_append_getElem h1,List.set_append_right _ _ (by simp;omega)];have h2:min o A.size=o:=Nat.min_eq_left (by omega);simp[List.length_take,h2];congr 1;omega
theorem xO:∀(l:List Value) (j off:Nat) (A:Array Value),off+j+l.length<=A.size->
  ((l.zipIdx j).foldl (λ cs (x:Value×Nat)=>cs.setIfInBounds (off+x.2) x.1) A).toList=lE A.toList (off+j) l
 | [],j,off,A,h=>by simp[lE]
 |v::l,j,off,A,h=>by
  simp only[List.length_cons]at h;rw[List.zipIdx_cons,List.foldl_cons,xO l (j+1) off _ (by simp;omega)];rw[<-Nat.add_assoc,Kd _ _ _ _ (by omega)]
theorem dI.lay{F:Fz}{cs xs:List D}{vs l:List Value}{off:Nat}(h:dI F cs vs)(k:dI F xs l):dI F (lay cs off xs) (lE vs off l):=by unfold Go.Dn.lay lE;rw[dI.length k];exact(dI.append (dI.append (h.take off) k) (h.drop _))
theorem D.cells_RDs{F:Fz}{x:D}{v:Value}(h:RD F x v):dI F x.cells v.cells.toList/\v.cells.size=x.width:=by
 cases x with
 |g cs=>simp only[RD]at h;obtain⟨vs,rfl,hr⟩:=h;exact⟨hr,by simp[Value.cells,D.width];rw[<-Array.length_toList];exact dI.length hr⟩
 |np=>have h':=h;simp only[RD]at h';subst h';refine⟨?_,rfl⟩;simp only[D.cells,dI,Value.cells];exact⟨_,_,rfl,h,rfl⟩
 |b y=>have h':=h;simp only[RD]at h';subst h';refine⟨?_,rfl⟩;simp only[D.cells,dI,Value.cells];exact⟨_,_,rfl,h,rfl⟩
 |i k y=>have h':=h;simp only[RD]at h';subst h';refine⟨?_,rfl⟩;simp only[D.cells,dI,Value.cells];exact⟨_,_,rfl,h,rfl⟩
 |s y=>have h':=h;simp only[RD]at h';subst h';refine⟨?_,rfl⟩;simp only[D.cells,dI,Value.cells];exact⟨_,_,rfl,h,rfl⟩
 |l fl y=>have h':=h;simp only[RD]at h';obtain⟨a,n,c,sz,rfl,_⟩:=h';refine⟨?_,rfl⟩;simp only[D.cells,dI,Value.cells];exact⟨_,_,rfl,h,rfl⟩
section
variable {P : Program} {w : World} {G : Sg} {t : TypeId}
theorem AK{place:Nat->Option (Nat×Nat)}{A:Array Value}{i off size:Nat}{v:Value}{rest:List (Nat×Value)}(hp:place i=some (off,size))(hv:v.cells.size=size)(hle:off+size<=A.size):
  ∃B:Array Value,B.toList=lE A.toList off v.cells.toList/\B.size=A.size/\Instr.fill place A ((i,v)::rest)=Instr.fill place B rest:=by
 refine⟨v.cells.zipIdx.foldl (λ cs (x:Value×Nat)=>cs.setIfInBounds (off+x.2) x.1) A,?_,?_,?_⟩
 ·rw[<-Array.foldl_toList,Array.toList_zipIdx];have:=xO v.cells.toList 0 off A (by simp[hv];omega);simpa using this
 ·have h:=xO v.cells.toList 0 off A (by simp[hv];omega)
  rw[<-Array.length_toList,<-Array.foldl_toList,Array.toList_zipIdx,h,EV (by simp[hv];omega)];simp
 ·simp only[Instr.fill,hp];rw[if_neg (by rw[hv];simp;omega)]
theorem wb{fs:Array Field}(h:∀f∈fs.toList,(bZ P f.type).isSome=true):
  (fs.mapM λ f=>do pure (f.offset,<-sizeOf f.type):Sem (Array (Nat×Nat))).run P w = .ok (fs.map λ f=>(f.offset,(bZ P f.type).getD 0)) w:=by
 rw[Array.mapM_eq_mapM_toList];have key:∀l:List Field,(∀f∈l,(bZ P f.type).isSome=true)->(l.mapM λ f=>do pure (f.offset,<-sizeOf f.type):Sem (List (Nat×Nat))).run P w = .ok (l.map λ f=>(f.offset,(bZ P f.type).getD 0)) w:=by
  intro l
  induction l with
  |nil=>intro _;simp
  |cons f l ih=>
   intro hl;obtain⟨n,hn⟩:=Option.isSome_iff_exists.1 (hl f (by simp));rw[List.mapM_cons];simp only[Sem.run_bind,cJ hn,Result.andThen_ok,Sem.run_pure,ih λ g hg=>hl g (by simp[hg])];simp[hn]
 simp only[Sem.run_map,key _ h,Result.andThen_ok];congr 1;exact Array.toList_inj.1 (by simp)
theorem w8{G:Sg}{fs:Array Field}:∀(parts:List (Nat×Operand)) (ρ:Operand->Value) (vals:List V) (cs:List D) (A:Array Value) (r:List D),
  (∀x v,ev vals x=some v->RV G v (ρ x))->dI G.F cs A.toList->nR cs (parts.map (partOf P fs vals))=some r->
  ∃B:Array Value,Instr.fill ((fs.map λ f=>(f.offset,(bZ P f.type).getD 0))[·]?) A (parts.map λ (i,x)=>(i,ρ x))=some B/\dI G.F r B.toList
 | [],ρ,vals,cs,A,r,_,hA,h=>by
  simp[nR]at h;subst h;exact⟨A,rfl,hA⟩
 |(i,x)::parts,ρ,vals,cs,A,r,hρ,hA,h=>by
  cases hf:fs[i]? with
  |none=>simp[List.map_cons,nR,partOf,hf]at h
  |some f=>
   simp only[List.map_cons,nR,partOf,hf]at h;split at h
   ·rename_i d hd;split at h
    ·rename_i hc;have hr:=hρ x _ hd;simp only[RV]at hr;obtain⟨hcells,hsz⟩:=D.cells_RDs hr;have hl:=dI.length hA;obtain⟨B,hB,hBs,hfill⟩:=AK (place:=((fs.map λ f=>(f.offset,(bZ P f.type).getD 0))[·]?)) (A:=A) (i:=i) (off:=f.offset) (size:=(bZ P f.type).getD 0) (v:=ρ x)
      (rest:=parts.map λ (i,x)=>(i,ρ x)) (by simp[hf]) (by rw[hsz];exact hc.1) (by rw[<-Array.length_toList,hl];exact hc.2)
     obtain⟨C,hC,hr'⟩:=w8 parts ρ vals _ B r hρ (by rw[hB];exact dI.lay hA hcells) h;exact⟨C,by rw[List.map_cons];rw[hfill];exact hC,hr'⟩
    ·simp at h
   ·simp at h
theorem yS{t:TypeId}{z:List V}(h:fS P t=some z):∃v,(zeroValue t).run P w = .ok v w/\dJ G z v.cells.toList/\ux v.cells.toList=some z:=by
 unfold fS at h;split at h
 ·rename_i v hv
  cases hi:P.info? t with
  |none=>simp[hi]at hv
  |some i=>
   simp[hi]at hv;exact⟨v,by simp[zeroValue,run_typeInfo w hi,hv],uy h,h⟩
 ·simp at h
theorem rX{xs:List D}{vs:List Value}:dJ G (xs.map .d) vs↔dI G.F xs vs:=by
 induction xs generalizing vs with
 |nil=>simp only[List.map_nil,dJ,dI]
 |cons x xs ih=>simp only[List.map_cons,dJ,dI,RV,ih]
theorem Kx:∀{vs:List V} {ds:List D} {l:List Value},ML vs=some ds->dJ G vs l->dI G.F ds l
 | [],ds,l,h,hr=>by simp[ML]at h;subst h;simpa only[dJ,dI]using hr
 |v::vs,ds,l,h,hr=>by
  simp only[dJ]at hr;obtain⟨x,r,rfl,h1,h2⟩:=hr;unfold ML at h;split at h
  ·rename_i d ds' hd hds;injection h with h;subst h
   have h3:=Kx hds h2;simp only[dI];refine⟨x,r,rfl,?_,h3⟩;split at hd
   ·injection hd with hd;subst hd
    simp only[RV]at h1;subst h1;simp only[RD]
   ·have:=Di hd;subst this;simpa only[RV]using h1
  ·cases h
theorem Nb{fs:Array Field}{z:List V}{zd cs:List D}{parts:Array (Nat×Operand)}{vals:List V}{a:Act}(hf:Fr G vals a)(hu:P.underlying t=some (.struct fs))(hz:fS P t=some z)
  (hall:fs.toList.all (λ f=>(bZ P f.type).isSome)=true) (hzd:ML z=some zd)
  (h:nR zd (parts.toList.map (partOf P fs vals))=some cs):
  Yl P w G (Instr.build t (parts.map λ (i,x)=>(i,a.eval x))) (.d (.g cs)):=by
 obtain⟨v,hv,hr,_⟩:=yS (P:=P) (w:=w) (G:=G) hz;replace hr:=Kx hzd hr;obtain⟨B,hB,hrB⟩:=w8 parts.toList a.eval vals zd v.cells cs (λ x y hy=>cT hf hy) hr h;refine⟨.agg B,?_,by simp only[RV,RD];exact⟨B,rfl,hrB⟩⟩;have hp:=wb (P:=P) (w:=w) (fs:=fs) (λ f hf=>List.all_eq_true.1 hall f hf);simp only[Instr.build,Sem.run_bind,hv,Result.andThen_ok,run_underlying hu,hp];rw[Array.toList_map];simp only[hB,Sem.run_pure]
theorem kY{vals:List V}{a:Act}(hf:Fr G vals a):∀{xs:List Operand} {vs:List V},xs.mapM (ev vals)=some vs->dJ G vs (xs.map a.eval)
 | [],vs,h=>by simp at h;subst h;simp only[dJ,List.map_nil]
 |x::xs,vs,h=>by
  rw[List.mapM_cons]at h;simp only[bind,Option.bind_eq_some_iff,pure,Option.some.injEq]at h;obtain⟨v,hv,r,hr,rfl⟩:=h;simp only[dJ,List.map_cons];exact⟨_,_,rfl,cT hf hv,kY hf hr⟩
theorem TO{vs:List V}{v:V}{xs:Array Value}{ts:Array TypeId}{ty:TypeId}(hr:dJ G vs xs.toList)(h:OJ vs=some v):Yl P w G (Builtin.min_ ts ty xs) v:=by
 unfold OJ at h;split at h
 ·rename_i k a j b;split at h
  ·rename_i e;subst e;simp at h;subst h;simp only[dJ,RV,RD]at hr;obtain⟨_,_,hx,rfl,_,_,rfl,rfl,rfl⟩:=hr;simp[Yl,Builtin.min_,hx,Builtin.min2,RV,RD]
  ·simp at h
 ·simp at h
theorem TK{vs:List V}{v:V}{xs:Array Value}{ts:Array TypeId}{ty:TypeId}(hr:dJ G vs xs.toList)(h:OI vs=some v):Yl P w G (Builtin.max_ ts ty xs) v:=by
 unfold OI at h;split at h
 ·rename_i k a j b;split at h
  ·rename_i e;subst e;simp at h;subst h;simp only[dJ,RV,RD]at hr;obtain⟨_,_,hx,rfl,_,_,rfl,rfl,rfl⟩:=hr;simp[Yl,Builtin.max_,hx,Builtin.max2,RV,RD]
  ·simp at h
 ·simp at h
theorem yG{F:Fz}{kt:TypeId}{d:TypeDesc}(hu:P.underlying kt=some d){k q:D}{vk vq:Value}(hk:RD F k vk)(hq:RD F q vq)(hfit:gN P kt k=true):Instr.sameNow d vk vq=qx k q:=by
 unfold gN at hfit;split at hfit
 ·rename_i hu';rw[hu]at hu';simp at hu';subst hu';simp only[RD]at hk;subst hk
  cases q with
  |np=>simp only[RD]at hq;subst hq;rfl
  |b x=>simp only[RD]at hq;subst hq;rfl
  |i j x=>simp only[RD]at hq;subst hq;rfl
  |s x=>simp only[RD]at hq;subst hq;rfl
  |l fl x=>simp only[RD]at hq;obtain⟨_,_,_,_,rfl,_⟩:=hq;rfl
  |g x=>simp only[RD]at hq;obtain⟨_,rfl,_⟩:=hq;rfl
 ·rename_i hu';rw[hu]at hu';simp at hu';subst hu';simp only[RD]at hk;subst hk
  cases q with
  |np=>simp only[RD]at hq;subst hq;rfl
  |b x=>simp only[RD]at hq;subst hq;rfl
  |i j x=>simp only[RD]at hq;subst hq;rfl
  |s x=>simp only[RD]at hq;subst hq;simp[Instr.sameNow,qx,beq_toListBytes]
  |l fl x=>simp only[RD]at hq;obtain⟨_,_,_,_,rfl,_⟩:=hq;rfl
  |g x=>simp only[RD]at hq;obtain⟨_,rfl,_⟩:=hq;rfl
 ·simp at hfit
theorem ri{F:Fz}{kt:TypeId}{d:TypeDesc}(hu:P.underlying kt=some d){k:D}{vk:Value}(hk:RD F k vk)(hfit:gN P kt k=true):∀{es:List (D×D)} {ents:List MapEntry} {i:Nat} {r:Option D},
  es.length=ents.length->(∀(j:Nat) q x,es[j]?=some (q,x)->∃e:MapEntry,ents[j]?=some e/\RD F q e.key/\RD F x e.val)->oo k es=some r->
  match r with
  |none=>Instr.findNow d vk ents i=some none
  |some x=>∃v,(∃j,Instr.findNow d vk ents i=some (some (i+j,v)))/\RD F x v
 | [],[],i,r,_,_,h=>by simp[oo]at h;subst h;rfl
 | [],e::ents,i,r,hl,_,_=>by simp at hl
 |(q,x)::es,[],i,r,hl,_,_=>by simp at hl
 |(q,x)::es,e::ents,i,r,hl,hr,h=>by
  obtain⟨e',he,hq,hx⟩:=hr 0 q x rfl;simp at he;subst he;have hsame:=yG hu hk hq hfit;simp only[oo]at h;simp only[Instr.findNow,hsame];split at h
  ·rename_i hk1;simp at h;subst h;simp only[hk1];exact⟨e.val,⟨0,by simp⟩,hx⟩
  ·rename_i hk1;simp only[hk1];have ih:=ri hu hk hfit (i:=i+1) (es:=es) (ents:=ents) (by simpa using hl) (λ j q x hj=>by simpa using hr (j+1) q x (by simpa using hj)) h
   cases r with
   |none=>exact ih
   |some x=>obtain⟨v,⟨j,e1⟩,e2⟩:=ih;exact⟨v,⟨j+1,by rw[e1];congr 3;omega⟩,e2⟩
  ·simp at h
theorem me{kt:TypeId}{k:D}{vk:Value}{F:Fz}{em:Bool}(hk:RD F k vk)(hfit:gN P kt k=true):(Instr.checkKey em 10000 kt vk).run P w = .ok () w:=by
 unfold gN at hfit;obtain⟨n,hn⟩:∃n,10000=n+1:=⟨9999,rfl⟩
 rw[hn];split at hfit
 ·rename_i hu;simp only[RD]at hk;subst hk;simp[Instr.checkKey,run_underlying hu]
 ·rename_i hu;simp only[RD]at hk;subst hk;simp[Instr.checkKey,run_underlying hu]
 ·simp at hfit
theorem lz{kt:TypeId}{k:D}(hfit:gN P kt k=true):∃d,P.underlying kt=some d:=by
 unfold gN at hfit
 cases hu:P.underlying kt with
 |none=>simp[hu]at hfit
 |some d=>exact⟨d,rfl⟩
theorem Mz{e:TypeId}{z:V}(h:yR P e=some z):∃v,(zeroValue e).run P w = .ok v w/\RV G z v:=by
 unfold yR at h
 cases hi:P.info? e with
 |none=>simp[hi]at h
 |some i=>
  simp only[hi,Option.bind_some]at h
  cases hz:i.zero with
  |none=>simp[hz]at h
  |some v=>simp[hz]at h;exact⟨v,by simp[zeroValue,run_typeInfo w hi,hz],yn h⟩
theorem LF{S:List Ob}(hI:Inv w G S){kt e:TypeId}{z k:D}{m:V}{es:List (D×D)}{r:Option D}{ok:Bool}{vm vk:Value}(hu:P.underlying t=some (.map kt e))(hz:yR P e=some (.d z))
  (hm:RV G m vm) (hk:RD G.F k vk) (hfit:gN P kt k=true) (hes:mapOf S m=some es) (hr:oo k es=some r):
  Yl P w G (Instr.lookup t vm vk ok) (match ok with|true => .t [.d (r.getD z),.d (.b r.isSome)] | false => .d (r.getD z)):=by
 obtain⟨d,hd⟩:=lz hfit;obtain⟨zv,hzv,hzd⟩:=Mz (P:=P) (w:=w) (G:=G) hz;simp only[RV]at hzd;have fin:∀(ents:Array MapEntry),es.length=ents.toList.length->(∀(j:Nat) q x,es[j]?=some (q,x)->∃e:MapEntry,ents.toList[j]?=some e/\RD G.F q e.key/\RD G.F x e.val)->
   ∃v,RD G.F (r.getD z) v/\(∃o,(Instr.findKey kt vk ents.toList).run P w = .ok o w/\(o.map (·.2)=none/\v=zv/\r=none\/∃i,o=some (i,v)/\r.isSome=true)):=by
  intro ents hlen hrel;have hfn:=ri hd hk hfit (i:=0) hlen hrel hr
  cases r with
  |none=>
   simp only at hfn;exact⟨zv,hzd,none,by simp[Instr.findKey,run_underlying hd,hfn],.inl ⟨rfl,rfl,rfl⟩⟩
  |some x=>
   obtain⟨v,⟨j,hj⟩,hxv⟩:=hfn;exact⟨v,hxv,some (0+j,v),by simp[Instr.findKey,run_underlying hd,hj],.inr ⟨_,rfl,rfl⟩⟩
 have close:∀v,RD G.F (r.getD z) v->RV G (match ok with|true => .t [.d (r.getD z),.d (.b r.isSome)] | false => .d (r.getD z)) (if ok=true then .tuple #[v,.bool r.isSome]else v):=by
  intro v hv;cases ok
  ·simp only[RV];exact hv
  ·simp only[RV,dJ,RD];exact⟨_,rfl,_,_,rfl,hv,_,_,rfl,rfl,rfl⟩
 unfold mapOf at hes;split at hes
 ·simp at hes;subst hes;simp only[RV]at hm;subst hm;obtain⟨v,hv,o,ho,hcase⟩:=fin #[] (by simp) (by simp);have hck:=me (P:=P) (w:=w) (em:=(#[]:Array MapEntry).isEmpty) hk hfit;refine⟨_,?_,close v hv⟩;simp only[Instr.lookup,Sem.run_bind,run_underlying hu,Result.andThen_ok,Sem.run_pure,hck,ho];rcases hcase with⟨h1,rfl,rfl⟩|⟨i,rfl,h1⟩
  ·cases o with
   |none=>simp only[Sem.run_bind,hzv,Result.andThen_ok,Sem.run_pure];cases ok<;>rfl
   |some y=>simp at h1
  ·simp only[Sem.run_bind,Sem.run_pure,Result.andThen_ok,h1]
 ·split at hes
  ·rename_i id es' hob;simp at hes;subst hes;simp only[RV]at hm;obtain⟨blk,hown,rfl⟩:=hm;obtain⟨_,o',go,hs',hgo,hor⟩:=hI.ob _ _ hown;rw[hob]at hs';simp at hs';subst hs';cases go<;>simp only[gI]at hor;rename_i ents clock;obtain⟨v,hv,o,ho,hcase⟩:=fin ents (by simpa using hor.1) (λ j q x hj=>by simpa using hor.2 j q x hj);have hck:=me (P:=P) (w:=w) (em:=ents.isEmpty) hk hfit;refine⟨_,?_,close v hv⟩;have hget:(getObj blk).run P w = .ok (.map ents clock) w:=by simp[getObj,Sem.run,hgo]
   simp only[Instr.lookup,Sem.run_bind,run_underlying hu,Result.andThen_ok,Sem.run_pure,hget,hck,ho];rcases hcase with⟨h1,rfl,rfl⟩|⟨i,rfl,h1⟩
   ·cases o with
    |none=>simp only[Sem.run_bind,hzv,Result.andThen_ok,Sem.run_pure];cases ok<;>rfl
    |some y=>simp at h1
   ·simp only[Sem.run_bind,Sem.run_pure,Result.andThen_ok,h1]
  ·simp at hes
 ·simp at hes
end
section
variable {P : Program} {w : World} {G : Sg} {t : TypeId}
def sU(c:Value)(s:ByteArray):Sem (ForInStep ByteArray):=
 match c with
 | .int .u8 n=>pure (ForInStep.yield (s.push (UInt8.ofNat n.toNat)))
 |_=>do
  stuck "bytesToString: byte expected"
  pure (ForInStep.yield s)
theorem yZ{F:Fz}:∀{xs:List D} {b:List UInt8} {l:List Value},lV xs=some b->dI F (xs.flatMap D.cells) l->∀(s:ByteArray),
  (forIn l s sU:Sem ByteArray).run P w = .ok ⟨s.data++b.toArray⟩ w
 | [],b,l,h,hr,s=>by
  simp[lV]at h;subst h;simp only[List.flatMap_nil,dI]at hr;subst hr;simp
 |x::xs,b,l,h,hr,s=>by
  unfold lV at h;split at h
  ·rename_i e;simp at e
  ·rename_i n xs' e;simp at e;obtain⟨rfl,rfl⟩:=e;simp at h;obtain⟨b',hb',rfl⟩:=h;simp only[List.flatMap_cons,D.cells,List.singleton_append,dI,RD]at hr;obtain⟨_,l',rfl,rfl,hr'⟩:=hr;simp only[List.forIn_cons,sU,Sem.run_bind,Sem.run_pure,Result.andThen_ok];rw[yZ hb' hr'];congr 1;apply ByteArray.ext;apply Array.toList_inj.1;simp[ByteArray.data_push]
  ·simp at h
theorem tQ{S:List Ob}(hI:Inv w G S){v:V}{va:Value}{xs:List D}{b:List UInt8}(hv:RV G v va)(hview:view S 1 v=some xs)(hh:bw 1 xs=true)(hb:lV xs=some b):
  Yl P w G (Conv.bytesToString va) (.d (.s b)):=by
 obtain⟨a,c,rfl,_,_,l,hl,hrun,hr⟩:=wR (P:=P) hI hv hview hh;refine⟨.string ⟨b.toArray⟩,?_,by simp only[RV,RD]⟩;have key:=yZ (P:=P) (w:=w) hb hr ByteArray.empty
 cases a with
 |none=>
  simp only[Builtin.firstCells,Sem.run_pure]at hrun;have hl0:l=[]:=by
   injection hrun with h1
   have:=congrArg Array.toList h1;simpa using this.symm
  subst hl0;simp only[List.forIn_nil,Sem.run_pure]at key;injection key with h1
  have h2:b.toArray=#[]:=by have:=congrArg ByteArray.data h1;simpa using this.symm
  simp only[Conv.bytesToString,Sem.run_pure,h2];rfl
 |some A=>
  simp only[Builtin.firstCells,Nat.mul_one]at hrun;simp only[Conv.bytesToString,Sem.run_bind,hrun,Result.andThen_ok];have hk:(forIn l.toArray ByteArray.empty sU:Sem ByteArray).run P w = .ok ⟨b.toArray⟩ w:=by rw[List.forIn_toArray,key];simp
  change ((Sem.run P (forIn l.toArray ByteArray.empty sU) w).andThen λ a w'=>Sem.run P (pure (Value.string a)) w')=_;rw[hk];rfl
structure Grow (w:World) (G:Sg) (w':World) (G':Sg):Prop where
 os:w'.os=w.os
 tape:w'.tape=w.tape
 output:w'.output=w.output
 size:w.heap.size<=w'.heap.size
 heap:∀b,b<w.heap.size->w'.heap[b]?=w.heap[b]?
 own:G'.own=G.own
 F:Qd G.F G'.F
 old:∀b o,b<w.heap.size->G'.F b o=G.F b o
theorem Grow.refl(w:World)(G:Sg):Grow w G w G:=⟨rfl,rfl,rfl,Nat.le_refl _,λ _ _=>rfl,rfl,λ _ _ _ h=>h,λ _ _ _=>rfl⟩
theorem Grow.le{w':World}{G':Sg}(h:Grow w G w' G'):Le G G':=⟨h.F,λ b id e=>by rw[h.own];exact e⟩
theorem B3.same{w':World}{F F':Fz}{sz blk:Nat}{ot:Option Nat}{th:Bool}{v:Value}(h:B3 w F sz ot th blk v)(hh:w'.heap[blk]?=w.heap[blk]?)(hF:∀o,F' blk o=F blk o):B3 w' F' sz ot th blk v:=by obtain⟨off,n,c,cs,el,fz,e,hc,h1,h2,h0,h4,h3⟩:=h;exact⟨off,n,c,cs,el,fz,e,by rw[hh];exact hc,h1,h2,h0,h4,λ o ho=>by rw[hF];exact h3 o ho⟩
theorem B3.weak{w:World}{F:Fz}{sz blk:Nat}{ot:Option Nat}{th:Bool}{v:Value}(h:B3 w F sz ot th blk v):B3 w F sz ot false blk v:=by obtain⟨off,n,c,cs,el,fz,e,hc,h1,h2,h0,h4,h3⟩:=h;exact⟨off,n,c,cs,el,fz,e,hc,h1,h2,h0,⟨h4.1,λ h=>by cases h⟩,h3⟩
theorem fI.same{w':World}{G':Sg}{ℓ:Loc}{sz:Nat}{v:Value}(h:fI w G ℓ sz v)(hk:∀blk,G.own blk=some ℓ->G'.own blk=some ℓ/\w'.heap[blk]?=w.heap[blk]?/\∀o,G'.F blk o=G.F blk o):fI w' G' ℓ sz v:=by
 rcases h with h|⟨blk,ho,ht⟩
 ·exact .inl h
 ·obtain⟨h1,h2,h3⟩:=hk blk ho;exact .inr ⟨blk,h1,ht.same h2 h3⟩
theorem gI.same{w':World}{G':Sg}{id:Nat}{o:Ob}{go:Obj}(h:gI w G id o go)(hle:Le G G')(hk:∀off blk,G.own blk=some (.cell id off)->G'.own blk=some (.cell id off)/\w'.heap[blk]?=w.heap[blk]?/\∀o,G'.F blk o=G.F blk o):gI w' G' id o go:=by
 cases o with
 |cells cs fl=>
  cases go<;>simp only[gI]at h⊢;obtain⟨h1,h2,h3⟩:=h;refine⟨h1,λ o c hc=>?_,λ o sz hm=>?_⟩
  ·obtain⟨v,hv,hr,hf,ho⟩:=h2 o c hc;exact⟨v,hv,RV.mono hle c v hr,hf,ho⟩
  ·exact(h3 o sz hm).map λ v hv ht=>⟨v,hv,ht.same (hk o)⟩
 |map es=>
  cases go<;>simp only[gI]at h⊢;refine⟨h.1,λ i k x hi=>?_⟩;obtain⟨e,he,hk,hx⟩:=h.2 i k x hi;exact⟨e,he,RD.mono hle.F _ _ hk,RD.mono hle.F _ _ hx⟩
 |iter s pos=>cases go<;>simp only[gI]at h⊢;exact h
 |dead=>cases go<;>simp only[gI]at h
theorem cell?_of_heap{w':World}{b:Nat}(h:w'.heap[b]?=w.heap[b]?)(o:Nat):w'.cell? ⟨b,o,none⟩=w.cell? ⟨b,o,none⟩:=by simp[World.cell?,h]
theorem cell?_lt{b o:Nat}{v:Value}(h:w.cell? ⟨b,o,none⟩=some v):b<w.heap.size:=by
 rcases Nat.lt_or_ge b w.heap.size with hb|hb
 ·exact hb
 ·simp[World.cell?,Array.getElem?_eq_none hb]at h
theorem Inv.F_lt{S:List Ob}(hI:Inv w G S){b o:Nat}{v:Value}(h:G.F b o=some v):b<w.heap.size:=cell?_lt (hI.fz _ _ _ h)
theorem Inv.grow{S:List Ob}{w':World}{G':Sg}(hI:Inv w G S)(h:Grow w G w' G')(hnew:∀b o v,w.heap.size<=b->G'.F b o=some v->w'.cell? ⟨b,o,none⟩=some v):Inv w' G' S:={
 fz b o v hv:=by
  rcases Nat.lt_or_ge b w.heap.size with hb|hb
  ·rw[h.old b o hb]at hv;rw[cell?_of_heap (h.heap b hb)];exact hI.fz b o v hv
  ·exact hnew b o v hb hv
 ob b id ho:=by rw[h.own]at ho;obtain⟨h1,o,go,h2,h3,h4⟩:=hI.ob b id ho;have hb:=hI.tk _ _ ho;refine⟨λ o=>by rw[h.old b o hb];exact h1 o,o,go,h2,by rw[h.heap b hb];exact h3,h4.same h.le λ off blk hk=>?_⟩;have hb':=hI.tk _ _ hk;exact⟨by rw[h.own];exact hk,h.heap _ hb',λ o=>h.old _ _ hb'⟩
 inj b b' id h1 h2:=by rw[h.own]at h1 h2;exact hI.inj b b' id h1 h2
 tk b ℓ ho:=by rw[h.own]at ho;exact Nat.lt_of_lt_of_le (hI.tk b ℓ ho) h.size
 cl b id o ho:=by rw[h.own]at ho;exact hI.cl b id o ho
 rf:=hI.rf
 tb:=hI.tb_of λ b hb ho=>⟨h.heap b hb,by rw[h.own];exact ho⟩ }
end
theorem Ly(A l1 l2:List Value)(o:Nat)(h:o+l1.length+l2.length<=A.length):lE (lE A o l1) (o+l1.length) l2=lE A o (l1++l2):=by
 unfold lE;have h1:(A.take o++l1).length=o+l1.length:=by simp;omega
 rw[List.take_append_of_le_length (by omega),List.take_of_length_le (by omega),List.drop_append,List.drop_eq_nil_of_le (by omega),h1];simp only[List.nil_append,List.drop_drop,List.length_append,List.append_assoc];congr 4;omega
theorem Lz(A l:List Value)(h:l.length=A.length):lE A 0 l=l:=by unfold lE;simp[h]
section
variable {P : Program} {w : World} {G : Sg} {t : TypeId}
theorem xr{vals:List V}{sz:Nat}{ρ:Operand->Value}(hρ:∀x v,ev vals x=some v->RV G v (ρ x)):∀(parts:List (Nat×Operand)) (i:Nat) (A:Array Value) (xs:List D),
  (i+parts.length)*sz<=A.size->jv sz i (parts.map λ p=>(p.1,ev vals p.2))=some xs->
  ∃(B:Array Value) (l:List Value),Instr.fill (λ i=>some (i*sz,sz)) A (parts.map λ (i,x)=>(i,ρ x))=some B/\B.toList=lE A.toList (i*sz) l/\B.size=A.size/\l.length=parts.length*sz/\dI G.F (xs.flatMap D.cells) l/\sized xs sz/\xs.length=parts.length
 | [],i,A,xs,_,h=>by
  simp[jv]at h;subst h;exact⟨A,[],rfl,by simp[lE],rfl,by simp,by simp only[List.flatMap_nil,dI],by intro x hx;simp at hx,rfl⟩
 |(j,x)::parts,i,A,xs,hA,h=>by
  simp only[List.map_cons,jv]at h;split at h
  ·rename_i hij;split at h
   ·rename_i d ys hd hys;split at h
    ·rename_i hw;simp at h;subst h;have hr:=hρ x _ hd;simp only[RV]at hr;obtain⟨hcells,hsz⟩:=D.cells_RDs hr;simp only[List.length_cons]at hA;have hmul:(i+(parts.length+1))*sz=i*sz+sz+parts.length*sz:=by rw[Nat.add_mul,Nat.add_mul,Nat.one_mul];omega
     have hmul2:(i+1+parts.length)*sz=i*sz+sz+parts.length*sz:=by rw[Nat.add_mul,Nat.add_mul,Nat.one_mul]
     obtain⟨B,hB,hBs,hfill⟩:=AK (place:=λ i=>some (i*sz,sz)) (A:=A) (i:=j) (off:=i*sz) (size:=sz) (v:=ρ x)
      (rest:=parts.map λ (i,x)=>(i,ρ x)) (by rw[hij]) (by rw[hsz,hw]) (by omega)
     obtain⟨C,l,h1,h2,h3,h4,h5,h6,h7⟩:=xr hρ parts (i+1) B ys (by omega) hys;have hcl:(ρ x).cells.toList.length=sz:=by rw[Array.length_toList,hsz,hw]
     refine⟨C,(ρ x).cells.toList++l,by rw[List.map_cons,hfill];exact h1,?_,by omega,by rw[List.length_append,hcl,h4,List.length_cons,Nat.add_mul,Nat.one_mul];omega,?_,?_,by simp[h7]⟩
     ·have hAl:A.toList.length=A.size:=by simp
      rw[h2,hB,<-Ly _ _ _ _ (by rw[hcl,h4,hAl];omega),hcl,Nat.add_mul,Nat.one_mul]
     ·rw[List.flatMap_cons];exact dI.append hcells h5
     ·intro y hy;rcases List.mem_cons.1 hy with rfl|hy
      ·exact hw
      ·exact h6 y hy
    ·simp at h
   ·simp at h
  ·simp at h
def C3(w:World)(arr:Array Value)(el:TypeId):World:={ w with heap:=w.heap.push (.cells arr el (0,0)) }
def FW(w:World)(G:Sg)(arr:Array Value)(n:Nat):Sg:={ G with F:=λ b o=>if b=w.heap.size then(if o<n then arr[o]? else none)else G.F b o }
theorem yB{S:List Ob}(hI:Inv w G S)(arr:Array Value)(el:TypeId)(n:Nat):Grow w G (C3 w arr el) (FW w G arr n):={
 os:=rfl
 tape:=rfl
 output:=rfl
 size:=by simp[C3]
 heap b hb:=by simp only[C3];rw[Array.getElem?_push,if_neg (by omega)]
 own:=rfl
 F b o v h:=by
  simp only[FW];rw[if_neg]
  ·exact h
  ·have:=hI.F_lt h;omega
 old b o hb:=by simp only[FW];rw[if_neg (by omega)] }
theorem O8{arr:Array Value}{el:TypeId}{o:Nat}:(C3 w arr el).cell? ⟨w.heap.size,o,none⟩=arr[o]?:=by unfold World.cell? C3;simp only[Array.getElem?_push_size];rfl
theorem Rz{S:List Ob}(hI:Inv w G S)(arr:Array Value)(el:TypeId)(n:Nat):Inv (C3 w arr el) (FW w G arr n) S:=by
 refine hI.grow (yB hI arr el n) λ b o v hb h=>?_;simp only[FW]at h;split at h
 ·rename_i e;subst e;split at h
  ·rw[O8];exact h
  ·simp at h
 ·have:=hI.F_lt h;omega
theorem Il{S:List Ob}(hI:Inv w G S){arr:Array Value}{n:Nat}{ds:List D}{l:List Value}(hr:dI G.F ds l)(hl:∀(i:Nat) v,l[i]?=some v->arr[i]?=some v)(hn:ds.length<=n):
  cR (FW w G arr n).F w.heap.size 0 ds:=by
 refine cR.of_get λ i c hi=>?_;obtain⟨v,hv,hrv⟩:=dI.get hr hi;have hlt:=(List.getElem?_eq_some_iff.1 hi).1;refine⟨v,?_,RD.mono (yB hI arr 0 n).F c v hrv⟩;simp only[FW,if_true,Nat.zero_add];rw[if_pos (by omega)];exact hl _ _ hv
theorem yE(el:TypeId)(arr:Array Value):(newRow el arr).run P w = .ok ⟨w.heap.size,0,none⟩ (C3 w arr el):=rfl
theorem oM{e:TypeId}{sz len:Nat}{parts:Array (Nat×Operand)}{vals:List V}{a:Act}{xs:List D}(hf:Fr G vals a)(hu:P.underlying t=some (.slice e))(hsz:bZ P e=some sz)
  (hz:(fS P e).isSome=true) (hlen:parts.size=len) (hle:len*sz<=16777216) (h:jv sz 0 (parts.toList.map λ p=>(p.1,ev vals p.2))=some xs):
  ∃B:Array Value,(Instr.buildSlice t len (parts.map λ (i,x)=>(i,a.eval x))).run P w = .ok (.slice (some ⟨w.heap.size,0,none⟩) len len) (C3 w B e)/\dI G.F (xs.flatMap D.cells) B.toList/\sized xs sz/\xs.length=len/\B.size=len*sz:=by
 obtain⟨z,hz⟩:=Option.isSome_iff_exists.1 hz;obtain⟨zv,hzv,_,_⟩:=yS (P:=P) (w:=w) (G:=G) hz;obtain⟨Z,hZ0,hZ1⟩:∃Z:Array Value,(len*sz=0->Z=#[])/\(len*sz≠0->Z=zv.cells):=by
  by_cases h0:len*sz=0
  ·exact⟨#[],λ _=>rfl,λ h=>absurd h0 h⟩
  ·exact⟨zv.cells,λ h=>absurd h h0,λ _=>rfl⟩
 obtain⟨B,l,h1,h2,h3,h4,h5,h6,h7⟩:=xr (G:=G) (ρ:=a.eval) (λ x v hv=>cT hf hv) parts.toList 0 ((Array.range (len*sz)).map (Z[· % Z.size]!)) xs (by simp[hlen]) h;have hBl:B.toList=l:=by rw[h2,Nat.zero_mul,Lz];rw[h4];simp[hlen]
 refine⟨B,?_,by rw[hBl];exact h5,h6,by rw[h7];simp[hlen],by rw[h3];simp⟩;simp only[Instr.buildSlice,Sem.run_bind,run_underlying hu,Result.andThen_ok,cJ hsz];rw[if_neg (by omega)];have hm:(parts.map λ (i,x)=>(i,a.eval x)).toList=parts.toList.map λ (i,x)=>(i,a.eval x):=by rw[Array.toList_map]
 by_cases h0:len*sz=0
 ·rw[if_pos h0];obtain rfl:=hZ0 h0;simp only[Sem.run_bind,Sem.run_pure,Result.andThen_ok,hm,h1,yE]
 ·rw[if_neg h0];obtain rfl:=hZ1 h0;simp only[Sem.run_bind,hzv,Sem.run_pure,Result.andThen_ok,hm,h1,yE]
theorem zw{S:List Ob}(hI:Inv w G S){e:TypeId}{sz len:Nat}{parts:Array (Nat×Operand)}{vals:List V}{a:Act}{xs:List D}(hf:Fr G vals a)(hu:P.underlying t=some (.slice e))(hsz:bZ P e=some sz)
  (hz:(fS P e).isSome=true) (hlen:parts.size=len) (hle:len*sz<=16777216) (h:jv sz 0 (parts.toList.map λ p=>(p.1,ev vals p.2))=some xs):
  ∃x w' G',(Instr.buildSlice t len (parts.map λ (i,x)=>(i,a.eval x))).run P w = .ok x w'/\RV G' (.d (.l true xs)) x/\Grow w G w' G'/\Inv w' G' S:=by
 obtain⟨B,h1,h5,h6,h7,h3⟩:=oM (w:=w) hf hu hsz hz hlen hle h;refine⟨.slice (some ⟨w.heap.size,0,none⟩) len len,C3 w B e,FW w G B B.size,h1,?_,yB hI _ _ _,Rz hI _ _ _⟩;simp only[RV,RD];refine⟨_,_,_,sz,rfl,h7.symm,Nat.le_refl _,λ _=>rfl,h6,λ _=>⟨_,_,rfl,?_⟩⟩;rw[ka];refine Il hI h5 (λ i v hv=>?_) ?_
 ·simpa using hv
 ·rw[gW h6,h7,h3];exact Nat.le_refl _
theorem J3{S:List Ob}(hI:Inv w G S){vals:List V}{a:Act}(hf:Fr G vals a){o:Oper}{v:V}(h:dX P vals S o=some v):
  ∃x w' G',(execOp a.eval o).run P w = .ok (.value x) w'/\RV G' v x/\Grow w G w' G'/\Inv w' G' S:=by
 have of:∀{s:Sem Value},Yl P w G s v->(execOp a.eval o=(do pure (.value (<-s))))->∃x w' G',(execOp a.eval o).run P w = .ok (.value x) w'/\RV G' v x/\Grow w G w' G'/\Inv w' G' S:=by rintro s ⟨x,hx,hr⟩ e;exact⟨x,w,G,by rw[e];simp[hx],hr,Grow.refl _ _,hI⟩
 have oF:∀{z:Option Operand} {r:Option V},zq vals z=some r->nk G r (z.map a.eval):=by
  intro z r hz
  cases z with
  |none=>simp[zq]at hz;subst hz;exact trivial
  |some x=>
   simp only[zq]at hz;split at hz
   ·rename_i y hy;simp at hz;subst hz;exact cT hf hy
   ·simp at hz
 unfold dX at h;split at h
 ·rename_i x hop;exact of (s:=pure (a.eval x)) ⟨_,rfl,cT hf h⟩ (by simp[execOp,hop])
 ·rename_i x hop;exact of (s:=pure (a.eval x)) ⟨_,rfl,cT hf h⟩ (by simp[execOp,hop])
 ·rename_i c x y hop;simp only[bind,Option.bind_eq_some_iff]at h;obtain⟨vc,hc,vx,hx,vy,hy,h⟩:=h;obtain⟨z,hz,hr⟩:=Rm (P:=P) (w:=w) (cT hf hc) (cT hf hx) (cT hf hy) h;exact of (s:=do pure (if <-asBool (a.eval c)then a.eval x else a.eval y)) ⟨z,hz,hr⟩ (by
   simp only[execOp,hop];simp)
 ·rename_i t parts hop;split at h
  ·rename_i fs z hu hz;split at h
   ·simp at h
   ·rename_i hall;simp only[bind,pure,Option.bind_eq_some_iff,Option.some.injEq]at h;obtain⟨zd,hzd,cs,hcs,rfl⟩:=h;exact of (Nb hf hu hz (by revert hall;cases fs.toList.all λ f=>(bZ P f.type).isSome<;>simp) hzd hcs) (by simp[execOp,hop])
  ·simp at h
 ·rename_i t len parts hop;simp only[bind,Option.bind_eq_some_iff]at h;obtain⟨e,he,sz,hsz,h⟩:=h;split at h
  ·rename_i hc;simp only[pure,Option.bind_eq_some_iff,Option.some.injEq]at h;obtain⟨xs,hxs,rfl⟩:=h;have hu:P.underlying t=some (.slice e):=by unfold lp at he;split at he<;>simp_all
   obtain⟨x,w',G',h1,h2,h3,h4⟩:=zw hI hf hu hsz hc.2.2 hc.1 hc.2.1 hxs;exact⟨x,w',G',by simp[execOp,hop,h1],h2,h3,h4⟩
  ·simp at h
 ·rename_i t x hop;simp only[bind,Option.bind_eq_some_iff]at h;obtain⟨ag,hag,n,hn,vx,hx,h⟩:=h;exact of (JE hI hn hag (cT hf hx) h) (by simp[execOp,hop])
 ·rename_i x hop;simp only[bind,Option.bind_eq_some_iff]at h;obtain⟨vx,hx,h⟩:=h;obtain⟨⟨A,hA⟩,hr⟩:=TR (cT hf hx) h;exact of (s:=pure (a.eval x)) ⟨_,rfl,hr⟩ (by simp[execOp,hop,hA])
 ·rename_i op t x y yt hop;simp only[bind,Option.bind_eq_some_iff]at h;obtain⟨bt,hbt,vx,hx,vy,hy,h⟩:=h;exact of (SY (x:=x) (y:=y) hbt (cT hf hx) (cT hf hy) h) (by simp[execOp,hop])
 ·rename_i op t x hop;simp only[bind,Option.bind_eq_some_iff]at h;obtain⟨vx,hx,h⟩:=h;exact of (VJ (cT hf hx) h) (by simp[execOp,hop])
 ·rename_i s d x hop;split at h
  ·rename_i s' d' hs hd;split at h
   ·rename_i e;split at h
    ·rename_i hue;simp only[bind,pure,Option.bind_eq_some_iff,Option.some.injEq]at h;obtain⟨vx,hx,xs,hxs,b,hb,rfl⟩:=h;have hv:=cT hf hx;have hh:bw 1 xs=true:=by
      cases xs with
      |nil=>rfl
      |cons y ys=>
       unfold lV at hb;split at hb
       ·rename_i e;simp at e
       ·rename_i e;injection e with e _;subst e;rfl
       ·simp at hb
     obtain⟨z,hz,hr⟩:=tQ (P:=P) hI hv hxs hh hb;have hvs:∃q n c,a.eval x = .slice q n c:=by obtain⟨q,c,e,_⟩:=wR (P:=P) hI hv hxs hh;exact⟨q,_,c,e⟩
     obtain⟨q,n,c,hq⟩:=hvs;exact of (s:=convert s d (a.eval x)) ⟨z,by rw[hq]at hz⊢;simp[convert,run_underlying hs,run_underlying hd,run_underlying hue,hz],hr⟩ (by simp[execOp,hop])
    ·simp at h
   ·simp only[bind,Option.bind_eq_some_iff]at h;obtain⟨vx,hx,h⟩:=h;exact of (Qz hs hd (cT hf hx) h) (by simp[execOp,hop])
  ·simp at h
 ·rename_i fn first captured hop
  split at h
  ·rename_i k;split at h
   ·rename_i hfirst;simp only[bind,pure,Option.bind_eq_some_iff,Option.some.injEq]at h;obtain⟨caps,hcaps,rfl⟩:=h;have h0:first=#[]:=by simpa using hfirst
    subst h0;refine of (s:=pure (.func (.func k) #[] (captured.map a.eval))) ⟨_,rfl,?_⟩ (by simp[execOp,hop,Instr.makeFunc]);simp only[RV];exact⟨_,rfl,by rw[Array.toList_map];exact kY hf hcaps⟩
   ·simp at h
  ·simp at h
 ·rename_i t x lo hi mx hop;split at h
  ·simp at h
  ·rename_i hmx;have ex:execOp a.eval o=(do pure (.value (<-Instr.sliceAt t (a.eval x) (lo.map a.eval) (hi.map a.eval) none))):=by simp[execOp,hop]
   split at h
   ·rename_i hu;simp only[bind,Option.bind_eq_some_iff]at h;obtain⟨vx,hx,s,hs,l,hl,r,hr,h⟩:=h;have hv:=cT hf hx;have:vx = .d (.s s):=by unfold Xw at hs;split at hs<;>simp_all
    subst this;exact of (It hu hv ⟨_,rfl⟩ (oF hl) (oF hr) h) ex
   ·rename_i e hu;simp only[bind,Option.bind_eq_some_iff]at h;obtain⟨vx,hx,v',hv',n,hn,l,hl,r,hr,h⟩:=h;have hv:=cT hf hx;have:vx=v'/\∀x,v' ≠ .d (.s x):=by unfold Xv at hv';split at hv'<;>simp_all;(subst hv';simp);(subst hv';simp)
    obtain⟨rfl,hne⟩:=this;exact of (Is hu hn hv hne (oF hl) (oF hr) h) ex
   ·rename_i n e hu;simp only[bind,Option.bind_eq_some_iff]at h;obtain⟨sz,hsz,vx,hx,l,hl,r,hr,h⟩:=h;exact of (Mp hu hsz (cT hf hx) (oF hl) (oF hr) h) ex
   ·simp at h
 ·rename_i s x f hop;split at h
  ·rename_i fs hu;split at h
   ·rename_i g hg;simp only[bind,Option.bind_eq_some_iff]at h;obtain⟨n,hn,h⟩:=h;split at h
    ·simp at h
    ·rename_i hn0;simp only[Option.bind_eq_some_iff]at h;obtain⟨vx,hx,h⟩:=h;exact of (Co hu hg hn hn0 (cT hf hx) h) (by simp[execOp,hop])
   ·simp at h
  ·simp at h
 ·rename_i t x f hop;split at h
  ·rename_i fs hu;split at h
   ·rename_i g hg;simp only[bind,Option.bind_eq_some_iff]at h;obtain⟨n,hn,ag,hag,vx,hx,h⟩:=h;exact of (NT hu hg hn hag (cT hf hx) h) (by simp[execOp,hop])
   ·simp at h
  ·simp at h
 ·rename_i t x i hop;split at h
  ·rename_i e hu;simp only[bind,Option.bind_eq_some_iff]at h;obtain⟨n,hn,vx,hx,vi,hi,h⟩:=h;exact of (Cz hu hn (cT hf hx) (cT hf hi) h) (by simp[execOp,hop])
  ·rename_i n e hu;simp only[bind,Option.bind_eq_some_iff]at h;obtain⟨sz,hsz,vx,hx,vi,hi,h⟩:=h;exact of (zF hu hsz (cT hf hx) (cT hf hi) h) (by simp[execOp,hop])
  ·simp at h
 ·rename_i t x i hop;split at h
  ·rename_i hu;simp only[bind,Option.bind_eq_some_iff]at h;obtain⟨vx,hx,vi,hi,h⟩:=h;exact of (N2 hu (cT hf hx) (cT hf hi) h) (by simp[execOp,hop])
  ·simp at h
 ·rename_i t i hop;simp only[bind,Option.bind_eq_some_iff]at h;obtain⟨vx,hx,h⟩:=h;exact of (Ha (cT hf hx) h) (by simp[execOp,hop])
 ·rename_i t m k ok hop;split at h
  ·rename_i kt e hu;split at h
   ·rename_i z hz;simp only[bind,Option.bind_eq_some_iff]at h;obtain⟨vk,hk,kd,hkd,h⟩:=h;split at h
    ·simp at h
    ·rename_i hfit;simp only[pure,Option.bind_eq_some_iff,Option.some.injEq]at h;obtain⟨vm,hm,es,hes,r,hr,h⟩:=h;have hkr:=cT hf hk;rw[Di hkd]at hkr;simp only[RV]at hkr;have hl:=LF (ok:=ok) hI hu hz (cT hf hm) hkr (by simpa using hfit) hes hr;have hl':Yl P w G (Instr.lookup t (a.eval m) (a.eval k) ok) v:=by rw[<-h];cases ok<;>exact hl
     exact of hl' (by simp[execOp,hop])
   ·simp at h
  ·simp at h
 ·rename_i c hop;split at h
  ·rename_i hcal;split at h
   ·rename_i t x ht hx;split at h
    ·rename_i d hu;simp only[bind,Option.bind_eq_some_iff]at h;obtain⟨vx,hvx,h⟩:=h;obtain⟨z,hz,hr⟩:=TG (P:=P) (ty:=o.type) hI hu (cT hf hvx) h;refine of (s:=Builtin.len_ c.argTypes o.type (c.args.map a.eval)) ⟨z,?_,hr⟩ ?_
     ·rw[<-hz];simp only[Builtin.len_];have e1:(c.args.map a.eval)[0]?=some (a.eval x):=by simp[hx]
      rw[ht,e1];rfl
     ·simp[execOp,hop,resolve,hcal,invoke,builtin]
    ·simp at h
   ·simp at h
  ·rename_i hcal;simp only[bind,Option.bind_eq_some_iff]at h;obtain⟨vs,hvs,h⟩:=h;exact of (TO (ts:=c.argTypes) (ty:=o.type) (xs:=c.args.map a.eval) (by rw[Array.toList_map];exact kY hf hvs) h) (by simp[execOp,hop,resolve,hcal,invoke,builtin])
  ·rename_i hcal;simp only[bind,Option.bind_eq_some_iff]at h;obtain⟨vs,hvs,h⟩:=h;exact of (TK (ts:=c.argTypes) (ty:=o.type) (xs:=c.args.map a.eval) (by rw[Array.toList_map];exact kY hf hvs) h) (by simp[execOp,hop,resolve,hcal,invoke,builtin])
  ·simp at h
 ·simp at h
end
end Go.Dn
