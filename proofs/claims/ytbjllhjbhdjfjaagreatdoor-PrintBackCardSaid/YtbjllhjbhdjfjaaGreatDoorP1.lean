/- Tables of the library's that stand in memory when a call begins: which block holds what (block 0 the powers of ten, block 1 some integer). -/
import Derived.Lib.ItoaNum
import GoSem.Claims
import Derived.Calls
import Derived.Orders
import Derived.Laws.Sem
import Derived.Laws.Entries
import Derived.ChangeKeysEq
import Derived.Laws.StructEq
set_option linter.unusedVariables false
set_option linter.unusedSimpArgs false
set_option linter.unusedSectionVars false
set_option linter.defProp false
namespace Go
def aaN:=@if_neg
def aaR:=@if_pos
def aaS:=@List.length_append
def abd:=@Option.bind_eq_some_iff
def aaT:=@List.length_cons
def abl:=@List.getElem?_eq_getElem
def aa3:=@decide_eq_true
def abf:=@decide_eq_false
def abe:=@Int.toNat_natCast
def abg:=@List.append_assoc
def abr:=@beq_eq_false_iff_ne
def abo:=@List.append_nil
def abp:=@List.length_nil
def abq:=@beq_self_eq_true
def abG:=@List.getD_eq_getElem?_getD
def abE:=@List.getElem?_eq_some_iff
def abn:=@Nat.lt_or_ge
def aa4:=@Nat.le_refl
def abm:=@Nat.mul_assoc
def abJ:=@List.drop_eq_nil_of_le
def abH:=@Nat.mul_le_mul_right
def abO:=@Nat.mul_lt_mul_of_pos_right
def abB:=@List.length_drop
def abK:=@List.mem_singleton
def abP:=@List.getElem?_take_of_lt
def abF:=@Nat.mod_eq_of_lt
def abN:=@List.getElem?_eq_none
def abv:=@Nat.zero_add
def aby:=@Nat.add_assoc
def abM:=@Nat.pow_le_pow_right
def abt:=@Nat.pow_pos
def abL:=@Nat.lt_of_lt_of_le
def abx:=@Nat.pow_succ
def abQ:=@List.mem_of_getElem?
def abw:=@Nat.add_mul
def abD:=@Nat.mul_comm
def abA:=@Nat.mul_add
def abC:=@Nat.pow_add
def abS:=@List.take_of_length_le
def abI:=@Nat.le_trans
def abR:=@List.length_pos_iff
def abz:=@Nat.mod_lt
def abu:=@List.all_eq_true
end Go
namespace Go.Dn
def yT(b:Nat):Option (Array Value->Prop):=
 if b=0 then some λ arr=>arr=(Lib.pow10Tab.map λ z=>Value.int .u64 z).toArray
 else if b=1 then some λ arr=>∃m:Int,arr=#[Value.int .i64 m]else none
inductive D where
 |b (x:Bool)
 |i (k:IntKind) (n:Int)
 |s (x:List UInt8)
 |l (full:Bool) (xs:List D)
 |g (cs:List D)
 |np
 deriving Inhabited
inductive V where
 |d (x:D)
 |m (id off len:Nat)
 |p (id off:Nat)
 |np
 |e (xs:List D) (i off:Nat)
 |f (k:Nat)
 |t (vs:List V)
 |nifc
 |u
 deriving Inhabited
def D.width:D->Nat
 | .g cs=>cs.length
 |_=>1
def sized(xs:List D)(sz:Nat):Prop:=∀x∈xs,x.width=sz
abbrev Fz:=Nat->Nat->Option Value
mutual
def RD(F:Fz):D->Value->Prop
 | .b x,v=>v = .bool x
 | .i k n,v=>v = .int k n
 | .s x,v=>v = .string ⟨x.toArray⟩
 | .l full xs,v=>∃a n c sz,v = .slice a n c/\n=xs.length/\n<=c/\(full=true->c=n)/\sized xs sz/\(xs≠[]->∃blk off,a=some ⟨blk,off,none⟩/\bN F blk off xs)
 | .g cs,v=>∃vs,v = .agg vs/\eg F cs vs.toList
 | .np,v=>v = .pointer none
def eg(F:Fz):List D->List Value->Prop
 | [],vs=>vs=[]
 |c::cs,vs=>∃v r,vs=v::r/\RD F c v/\eg F cs r
def bN(F:Fz)(blk off:Nat):List D->Prop
 | []=>True
 | .g cs::xs=>cN F blk off cs/\bN F blk (off+cs.length) xs
 | .b x::xs=>(∃v,F blk off=some v/\RD F (.b x) v)/\bN F blk (off+1) xs
 | .i k x::xs=>(∃v,F blk off=some v/\RD F (.i k x) v)/\bN F blk (off+1) xs
 | .s x::xs=>(∃v,F blk off=some v/\RD F (.s x) v)/\bN F blk (off+1) xs
 | .l fl x::xs=>(∃v,F blk off=some v/\RD F (.l fl x) v)/\bN F blk (off+1) xs
 | .np::xs=>(∃v,F blk off=some v/\RD F .np v)/\bN F blk (off+1) xs
def cN(F:Fz)(blk off:Nat):List D->Prop
 | []=>True
 |c::cs=>(∃v,F blk off=some v/\RD F c v)/\cN F blk (off+1) cs
end
inductive Loc where
 |obj (id:Nat)
 |cell (id off:Nat)
 |slot (n:Nat)
 |ext
 deriving DecidableEq
structure Sg where
 F:Fz
 own:Nat->Option Loc
mutual
def RV(G:Sg):V->Value->Prop
 | .d x,v=>RD G.F x v
 | .m id off len,v=>∃a c,v = .slice a len c/\len<=c/\(0<len->∃blk,G.own blk=some (.obj id)/\a=some ⟨blk,off,none⟩)
 | .p id off,v=>∃blk,G.own blk=some (.obj id)/\v = .pointer (some ⟨blk,off,none⟩)
 | .np,v=>v = .pointer none
 | .e xs i off,v=>∃blk o sz,v = .pointer (some ⟨blk,o+i*sz+off,none⟩)/\sized xs sz/\bN G.F blk o xs
 | .f k,v=>v = .func (.func k) #[] #[]
 | .t xs,v=>∃vs,v = .tuple vs/\eY G xs vs.toList
 | .nifc,v=>v = .nilIface
 | .u,_=>True
def eY(G:Sg):List V->List Value->Prop
 | [],vs=>vs=[]
 |c::cs,vs=>∃v r,vs=v::r/\RV G c v/\eY G cs r
end
inductive Ob where
 |cells (cs:List V) (fl:List (Nat×Nat))
 |dead
 deriving Inhabited
def bV:List Ob->Nat->Option Ob
 | [],_=>none
 |o::S,id=>if id=S.length then some o else bV S id
def oset:List Ob->Nat->Ob->List Ob
 | [],_,_=>[]
 |o::S,id,x=>if id=S.length then x::S else o::oset S id x
mutual
def cj(b:Nat):V->Bool
 | .m id _ _=>id<b
 | .p id _=>id<b
 | .t vs=>bI b vs
 |_=>true
def bI(b:Nat):List V->Bool
 | []=>true
 |v::vs=>cj b v&&bI b vs
end
def V.one:V->Bool
 | .d (.g _)=>false
 | .t _=>false
 | .u=>false
 |_=>true
def BY(w:World)(F:Fz)(sz:Nat)(ot:Option Nat)(th:Bool)(blk:Nat)(v:Value):Prop:=
 ∃off n c cs el fz,v = .slice (some ⟨blk,off,none⟩) n c/\w.heap[blk]?=some (.cells cs el fz)/\n<=c/\off+c*sz<=cs.size/\fz.1<=fz.2/\((∀t,ot=some t->el=t)/\(th=true->off=0/\fz.1=fz.2))/\
  ∀o,off+n*sz<=o->F blk o=none/\¬(fz.1<=o/\o<fz.2)
def y3(sz:Nat):Option Nat:=if 1000000<=sz then some (sz / 4000000)else none
def zM(ℓ:Loc)(sz:Nat):Bool:=match ℓ with
 | .slot _=>decide (3000000<=sz%4000000)
 |_=>false
def gq(w:World)(G:Sg)(ℓ:Loc)(sz:Nat)(v:Value):Prop:=
 (∃a n,v = .slice a n n/\(1000000<=sz->n=0))\/∃blk,G.own blk=some ℓ/\BY w G.F (sz%1000000) (y3 sz) (zM ℓ sz) blk v
def mU(w:World)(G:Sg)(id:Nat)(arr:Array Value)(el o sz:Nat):Prop:=
 if sz=2000000 then el=o else ∃v,arr[o]?=some v/\gq w G (.cell id o) sz v
theorem mU.map{w w':World}{G G':Sg}{id id':Nat}{arr arr':Array Value}{el o sz:Nat}(h:mU w G id arr el o sz)(hk:∀v,arr[o]?=some v->gq w G (.cell id o) sz v->∃v',arr'[o]?=some v'/\gq w' G' (.cell id' o) sz v'):mU w' G' id' arr' el o sz:=by
 unfold mU at h⊢;split
 ·rename_i e;rw[aaR e]at h;exact h
 ·rename_i e;rw[aaN e]at h;obtain⟨v,hv,ht⟩:=h;exact hk v hv ht
def kQ(w:World)(G:Sg)(id:Nat):Ob->Obj->Prop
 | .cells cs fl,.cells arr el fz=>cs.length<=arr.size/\(∀(o:Nat) c,cs[o]?=some c->∃v,arr[o]?=some v/\RV G c v/\¬(fz.1<=o/\o<fz.2)/\c.one=true)/\
   (∀o sz,(o,sz)∈fl->mU w G id arr el o sz)
 |_,_=>False
structure Inv (w:World) (G:Sg) (S:List Ob):Prop where
 fz:∀b o v,G.F b o=some v->w.cell? ⟨b,o,none⟩=some v
 ob:∀b id,G.own b=some (.obj id)->(∀o,G.F b o=none)/\∃o go,bV S id=some o/\w.heap[b]?=some go/\kQ w G id o go
 inj:∀b b' id,G.own b=some (.obj id)->G.own b'=some (.obj id)->b=b'
 tk:∀b ℓ,G.own b=some ℓ->b<w.heap.size
 cl:∀b id o,G.own b=some (.cell id o)->id<S.length
 rf:∀id cs fl,bV S id=some (.cells cs fl)->bI (id+1) cs=true
 tb:∀b p,yT b=some p->(∃arr x y,w.heap[b]?=some (.cells arr x y)/\p arr)/\G.own b=none
theorem Inv.tb_lt{w:World}{G:Sg}{S:List Ob}(hI:Inv w G S){b:Nat}{p:Array Value->Prop}(h:yT b=some p):b<w.heap.size:=by obtain⟨⟨_,x,y,e,_⟩,_⟩:=hI.tb b p h;exact(Array.getElem?_eq_some_iff.1 e).1
theorem Inv.tb_of{w w':World}{G G':Sg}{S:List Ob}(hI:Inv w G S)(h:∀b,b<w.heap.size->G.own b=none->w'.heap[b]?=w.heap[b]?/\G'.own b=none)(b:Nat)(p:Array Value->Prop)(hb:yT b=some p):(∃arr x y,w'.heap[b]?=some (.cells arr x y)/\p arr)/\G'.own b=none:=by obtain⟨⟨arr,x,y,e,hp⟩,ho⟩:=hI.tb b p hb;have:=h b (hI.tb_lt hb) ho;exact⟨⟨arr,x,y,by rw[this.1];exact e,hp⟩,this.2⟩
structure Le (G G':Sg):Prop where
 F:∀b o v,G.F b o=some v->G'.F b o=some v
 obj:∀b id,G.own b=some (.obj id)->G'.own b=some (.obj id)
theorem Le.refl(G:Sg):Le G G:=⟨λ _ _ _ h=>h,λ _ _ h=>h⟩
theorem Le.trans{A B C:Sg}(h:Le A B)(k:Le B C):Le A C:=⟨λ b o v x=>k.F b o v (h.F b o v x),λ b id x=>k.obj b id (h.obj b id x)⟩
def Tu(F F':Fz):Prop:=∀b o v,F b o=some v->F' b o=some v
mutual
theorem RD.mono{F F':Fz}(h:Tu F F'):∀(x:D) (v:Value),RD F x v->RD F' x v
 | .b _,_,hx=>by simpa only[RD]using hx
 | .i _ _,_,hx=>by simpa only[RD]using hx
 | .s _,_,hx=>by simpa only[RD]using hx
 | .l _ xs,_,hx=>by
  simp only[RD]at hx⊢;obtain⟨a,n,c,sz,h1,h2,h3,h4,h5,h6⟩:=hx;exact⟨a,n,c,sz,h1,h2,h3,h4,h5,λ hne=>by obtain⟨blk,off,e,he⟩:=h6 hne;exact⟨blk,off,e,bN.mono h blk off xs he⟩⟩
 | .g cs,_,hx=>by
  simp only[RD]at hx⊢;obtain⟨vs,e,hv⟩:=hx;exact⟨vs,e,eg.mono h cs _ hv⟩
 | .np,_,hx=>by simpa only[RD]using hx
theorem eg.mono{F F':Fz}(h:Tu F F'):∀(xs:List D) (vs:List Value),eg F xs vs->eg F' xs vs
 | [],_,hx=>by simpa only[eg]using hx
 |c::cs,_,hx=>by
  simp only[eg]at hx⊢;obtain⟨v,r,e,h1,h2⟩:=hx;exact⟨v,r,e,RD.mono h c v h1,eg.mono h cs r h2⟩
theorem bN.mono{F F':Fz}(h:Tu F F'):∀(blk off:Nat) (xs:List D),bN F blk off xs->bN F' blk off xs
 |_,_,[],_=>by simp only[bN]
 |blk,off,.g cs::xs,hx=>by simp only[bN]at hx⊢;exact⟨cN.mono h _ _ cs hx.1,bN.mono h _ _ xs hx.2⟩
 |blk,off,.np::xs,hx=>by simp only[bN]at hx⊢;obtain⟨⟨v,e,r⟩,k⟩:=hx;exact⟨⟨v,h _ _ _ e,RD.mono h .np v r⟩,bN.mono h _ _ xs k⟩
 |blk,off,.b x::xs,hx=>by simp only[bN]at hx⊢;obtain⟨⟨v,e,r⟩,k⟩:=hx;exact⟨⟨v,h _ _ _ e,RD.mono h (.b x) v r⟩,bN.mono h _ _ xs k⟩
 |blk,off,.i q x::xs,hx=>by simp only[bN]at hx⊢;obtain⟨⟨v,e,r⟩,k⟩:=hx;exact⟨⟨v,h _ _ _ e,RD.mono h (.i q x) v r⟩,bN.mono h _ _ xs k⟩
 |blk,off,.s x::xs,hx=>by simp only[bN]at hx⊢;obtain⟨⟨v,e,r⟩,k⟩:=hx;exact⟨⟨v,h _ _ _ e,RD.mono h (.s x) v r⟩,bN.mono h _ _ xs k⟩
 |blk,off,.l fl x::xs,hx=>by simp only[bN]at hx⊢;obtain⟨⟨v,e,r⟩,k⟩:=hx;exact⟨⟨v,h _ _ _ e,RD.mono h (.l fl x) v r⟩,bN.mono h _ _ xs k⟩
theorem cN.mono{F F':Fz}(h:Tu F F'):∀(blk off:Nat) (xs:List D),cN F blk off xs->cN F' blk off xs
 |_,_,[],_=>by simp only[cN]
 |blk,off,c::xs,hx=>by simp only[cN]at hx⊢;obtain⟨⟨v,e,r⟩,k⟩:=hx;exact⟨⟨v,h _ _ _ e,RD.mono h c v r⟩,cN.mono h _ _ xs k⟩
end
mutual
theorem RV.mono{G G':Sg}(h:Le G G'):∀(x:V) (v:Value),RV G x v->RV G' x v
 | .d x,_,hx=>by simp only[RV]at hx⊢;exact RD.mono h.F x _ hx
 | .m ..,_,hx=>by
  simp only[RV]at hx⊢;obtain⟨a,c,e,hl,hb⟩:=hx;exact⟨a,c,e,hl,λ hp=>by obtain⟨blk,ho,ha⟩:=hb hp;exact⟨blk,h.obj _ _ ho,ha⟩⟩
 | .p ..,_,hx=>by simp only[RV]at hx⊢;obtain⟨blk,ho,e⟩:=hx;exact⟨blk,h.obj _ _ ho,e⟩
 | .np,_,hx=>by simpa only[RV]using hx
 | .e xs _ _,_,hx=>by
  simp only[RV]at hx⊢;obtain⟨blk,o,sz,e,hs,hr⟩:=hx;exact⟨blk,o,sz,e,hs,bN.mono h.F _ _ xs hr⟩
 | .f _,_,hx=>by simpa only[RV]using hx
 | .nifc,_,hx=>by simpa only[RV]using hx
 | .t xs,_,hx=>by simp only[RV]at hx⊢;obtain⟨vs,e,hv⟩:=hx;exact⟨vs,e,eY.mono h xs _ hv⟩
 | .u,_,_=>by simp only[RV]
theorem eY.mono{G G':Sg}(h:Le G G'):∀(xs:List V) (vs:List Value),eY G xs vs->eY G' xs vs
 | [],_,hx=>by simpa only[eY]using hx
 |c::cs,_,hx=>by
  simp only[eY]at hx⊢;obtain⟨v,r,e,h1,h2⟩:=hx;exact⟨v,r,e,RV.mono h c v h1,eY.mono h cs r h2⟩
end
theorem eg.length{F:Fz}:∀{xs:List D} {vs:List Value},eg F xs vs->vs.length=xs.length
 | [],vs,h=>by simp only[eg]at h;simp[h]
 |c::cs,vs,h=>by simp only[eg]at h;obtain⟨v,r,e,_,h2⟩:=h;simp[e,eg.length h2]
theorem eY.length{G:Sg}:∀{xs:List V} {vs:List Value},eY G xs vs->vs.length=xs.length
 | [],vs,h=>by simp only[eY]at h;simp[h]
 |c::cs,vs,h=>by simp only[eY]at h;obtain⟨v,r,e,_,h2⟩:=h;simp[e,eY.length h2]
theorem eg.get{F:Fz}:∀{xs:List D} {vs:List Value} {i:Nat} {x:D},eg F xs vs->xs[i]?=some x->∃v,vs[i]?=some v/\RD F x v
 |c::cs,vs,0,x,h,hi=>by
  simp only[eg]at h;obtain⟨v,r,e,h1,_⟩:=h;simp at hi;subst hi;exact⟨v,by simp[e],h1⟩
 |c::cs,vs,i+1,x,h,hi=>by
  simp only[eg]at h;obtain⟨v,r,e,_,h2⟩:=h;simp at hi;obtain⟨y,hy,hr⟩:=eg.get h2 hi;exact⟨y,by simp[e,hy],hr⟩
theorem eY.get{G:Sg}:∀{xs:List V} {vs:List Value} {i:Nat} {x:V},eY G xs vs->xs[i]?=some x->∃v,vs[i]?=some v/\RV G x v
 |c::cs,vs,0,x,h,hi=>by
  simp only[eY]at h;obtain⟨v,r,e,h1,_⟩:=h;simp at hi;subst hi;exact⟨v,by simp[e],h1⟩
 |c::cs,vs,i+1,x,h,hi=>by
  simp only[eY]at h;obtain⟨v,r,e,_,h2⟩:=h;simp at hi;obtain⟨y,hy,hr⟩:=eY.get h2 hi;exact⟨y,by simp[e,hy],hr⟩
theorem eY.of_get{G:Sg}:∀{xs:List V} {vs:List Value},vs.length=xs.length->(∀(i:Nat) x,xs[i]?=some x->∃v,vs[i]?=some v/\RV G x v)->eY G xs vs
 | [],vs,hl,_=>by simp only[eY];exact List.length_eq_zero_iff.1 (by simpa using hl)
 |c::cs,[],hl,_=>by simp at hl
 |c::cs,v::vs,hl,h=>by
  simp only[eY];obtain⟨v',hv,hr⟩:=h 0 c rfl;simp at hv;subst hv;exact⟨v,vs,rfl,hr,eY.of_get (by simpa using hl) λ i x hi=>by simpa using h (i+1) x (by simpa using hi)⟩
theorem eg.of_get{F:Fz}:∀{xs:List D} {vs:List Value},vs.length=xs.length->(∀(i:Nat) x,xs[i]?=some x->∃v,vs[i]?=some v/\RD F x v)->eg F xs vs
 | [],vs,hl,_=>by simp only[eg];exact List.length_eq_zero_iff.1 (by simpa using hl)
 |c::cs,[],hl,_=>by simp at hl
 |c::cs,v::vs,hl,h=>by
  simp only[eg];obtain⟨v',hv,hr⟩:=h 0 c rfl;simp at hv;subst hv;exact⟨v,vs,rfl,hr,eg.of_get (by simpa using hl) λ i x hi=>by simpa using h (i+1) x (by simpa using hi)⟩
theorem wM{G:Sg}{c:V}{cs:List V}{v:Value}{vs:List Value}:eY G (c::cs) (v::vs)↔RV G c v/\eY G cs vs:=by
 simp only[eY];constructor
 ·rintro⟨_,_,e,h1,h2⟩;injection e with e1 e2;subst e1;subst e2;exact⟨h1,h2⟩
 ·rintro⟨h1,h2⟩;exact⟨_,_,rfl,h1,h2⟩
def kP(F:Fz)(blk off:Nat)(x:D):Prop:=
 match x with
 | .g cs=>cN F blk off cs
 |x=>∃v,F blk off=some v/\RD F x v
theorem ig{F:Fz}{blk off:Nat}{x:D}{xs:List D}:bN F blk off (x::xs)↔kP F blk off x/\bN F blk (off+x.width) xs:=by cases x<;>simp only[bN,kP,D.width]
theorem bN.append{F:Fz}{blk:Nat}{sz:Nat}:∀{xs ys:List D} {off:Nat},sized xs sz->(bN F blk off (xs++ys)↔bN F blk off xs/\bN F blk (off+xs.length*sz) ys)
 | [],ys,off,_=>by simp[bN]
 |x::xs,ys,off,h=>by
  have hx:x.width=sz:=h x (by simp);have ht:sized xs sz:=λ y hy=>h y (by simp[hy]);rw[List.cons_append,ig,ig,bN.append ht,hx,and_assoc,aaT,abw,Nat.one_mul,Nat.add_comm (xs.length*sz) sz,<-aby]
theorem bN.get{F:Fz}{blk:Nat}{sz:Nat}:∀{xs:List D} {off i:Nat} {x:D},sized xs sz->bN F blk off xs->xs[i]?=some x->kP F blk (off+i*sz) x
 |y::xs,off,0,x,_,h,hi=>by
  rw[ig]at h;simp at hi;subst hi;simpa using h.1
 |y::xs,off,i+1,x,hs,h,hi=>by
  rw[ig]at h;have hy:y.width=sz:=hs y (by simp);have:=bN.get (λ z hz=>hs z (by simp[hz])) h.2 (by simpa using hi);rw[hy]at this;rw[abw,Nat.one_mul,Nat.add_comm (i*sz) sz,<-aby];exact this
theorem bN.drop{F:Fz}{blk sz:Nat}{xs:List D}{off:Nat}(k:Nat)(hk:k<=xs.length)(hs:sized xs sz)(h:bN F blk off xs):bN F blk (off+k*sz) (xs.drop k):=by have hs':sized (xs.take k) sz:=λ x hx=>hs x (List.mem_of_mem_take hx);rw[<-List.take_append_drop k xs,bN.append hs',List.length_take,Nat.min_eq_left hk]at h;exact h.2
theorem bN.take{F:Fz}{blk sz:Nat}{xs:List D}{off:Nat}(k:Nat)(hs:sized xs sz)(h:bN F blk off xs):bN F blk off (xs.take k):=by have hs':sized (xs.take k) sz:=λ x hx=>hs x (List.mem_of_mem_take hx);rw[<-List.take_append_drop k xs,bN.append hs']at h;exact h.1
theorem cN.get{F:Fz}{blk:Nat}:∀{cs:List D} {off i:Nat} {c:D},cN F blk off cs->cs[i]?=some c->∃v,F blk (off+i)=some v/\RD F c v
 |y::cs,off,0,x,h,hi=>by simp only[cN]at h;simp at hi;subst hi;simpa using h.1
 |y::cs,off,i+1,x,h,hi=>by
  simp only[cN]at h;have:=cN.get h.2 (by simpa using hi)
  rwa[aby,Nat.add_comm 1 i]at this
theorem bN.of_get{F:Fz}{blk sz:Nat}:∀{xs:List D} {off:Nat},sized xs sz->(∀(i:Nat) x,xs[i]?=some x->kP F blk (off+i*sz) x)->bN F blk off xs
 | [],_,_,_=>by simp only[bN]
 |x::xs,off,hs,h=>by
  rw[ig];have hx:x.width=sz:=hs x (by simp);refine⟨by simpa using h 0 x rfl,?_⟩;rw[hx];refine bN.of_get (λ z hz=>hs z (by simp[hz])) λ i y hi=>?_;have:=h (i+1) y (by simpa using hi)
  rwa[abw,Nat.one_mul,Nat.add_comm (i*sz) sz,<-aby]at this
theorem cN.of_get{F:Fz}{blk:Nat}:∀{cs:List D} {off:Nat},(∀(i:Nat) c,cs[i]?=some c->∃v,F blk (off+i)=some v/\RD F c v)->cN F blk off cs
 | [],_,_=>by simp only[cN]
 |c::cs,off,h=>by
  simp only[cN];refine⟨by simpa using h 0 c rfl,cN.of_get λ i y hi=>?_⟩;have:=h (i+1) y (by simpa using hi)
  rwa[<-aby,Nat.add_right_comm]at this
theorem sized.take{xs:List D}{sz:Nat}(h:sized xs sz)(k:Nat):sized (xs.take k) sz:=λ x hx=>h x (List.mem_of_mem_take hx)
theorem sized.drop{xs:List D}{sz:Nat}(h:sized xs sz)(k:Nat):sized (xs.drop k) sz:=λ x hx=>h x (List.mem_of_mem_drop hx)
theorem sized.append{xs ys:List D}{sz:Nat}(h:sized xs sz)(k:sized ys sz):sized (xs++ys) sz:=λ x hx=>(List.mem_append.1 hx).elim (h x) (k x)
def D.cells:D->List D
 | .g cs=>cs
 |x=>[x]
theorem D.cells_length(x:D):x.cells.length=x.width:=by cases x<;>rfl
theorem nI{F:Fz}{blk off:Nat}{x:D}:kP F blk off x↔cN F blk off x.cells:=by cases x<;>simp only[kP,D.cells,cN,and_true]
def sU:Value->Option D
 | .bool b=>some (.b b)
 | .int k n=>some (.i k n)
 | .string s=>some (.s s.data.toList)
 | .slice none 0 0=>some (.l true [])
 |_=>none
def nn:List Value->Option (List D)
 | []=>some []
 |v::vs=>match sU v,nn vs with
  |some d,some ds=>some (d::ds)
  |_,_=>none
def JW:Value->Option V
 | .agg cs=>match nn cs.toList with
  |some ds=>some (.d (.g ds))
  |none=>none
 | .pointer none=>some .np
 | .nilIface=>some .nifc
 | .tuple _=>none
 |v=>match sU v with
  |some d=>some (.d d)
  |none=>none
def uG:List Value->Option (List V)
 | []=>some []
 |v::vs=>match JW v,uG vs with
  |some d,some ds=>some (d::ds)
  |_,_=>none
def cq(P:Program)(t:TypeId):Option Nat:=(P.info? t).map (·.size)
def mP(P:Program)(t:TypeId):Option Bool:=(P.underlying t).map λ | .struct _=>true | .array _ _=>true|_=>false
def ie(P:Program)(t:TypeId):Option (List V):=
 match (P.info? t).bind (·.zero) with
 |some v=>uG v.cells.toList
 |none=>none
def mu(P:Program)(t:TypeId):Option TypeId:=
 match P.underlying t with
 |some (.slice e)=>some e
 |_=>none
def ev(vals:List V):Operand->Option V
 | .tmp t=>some (vals.getD t .u)
 | .const v=>JW v
 | .func f=>some (.f f)
 | .global _=>none
def ZH:V->Option D
 | .d x=>some x
 |_=>none
def unS:V->Option (List UInt8)
 | .d (.s x)=>some x
 |_=>none
def unL:V->Option V
 | .d (.l f xs)=>some (.d (.l f xs))
 | .m id off len=>some (.m id off len)
 |_=>none
def Ot:List V->Option (List D)
 | []=>some []
 |v::vs=>match (match v with | .np=>some D.np|v=>ZH v),Ot vs with
  |some d,some ds=>some (d::ds)
  |_,_=>none
def y5:List V->Option (List D)
 | []=>some []
 |v::vs=>match ZH v,y5 vs with
  |some d,some ds=>some (d::ds)
  |_,_=>none
def view(S:List Ob)(sz:Nat):V->Option (List D)
 | .d (.l _ xs)=>some xs
 | .m id off len=>match bV S id with
  |some (.cells cs _)=>if sz=1 then(if off+len<=cs.length then y5 ((cs.drop off).take len)else none)else none
  |_=>if len=0 then some []else none
 |_=>none
def x9(c a b:V):Option V:=
 match c with
 | .d (.b x)=>some (if x then a else b)
 |_=>none
def OT(op:BinOp)(k:IntKind)(a b:Int):Option V:=
 match op with
 | .add=>some (.d (.i k (k.wrap (a+b))))
 | .sub=>some (.d (.i k (k.wrap (a-b))))
 | .mul=>some (.d (.i k (k.wrap (a*b))))
 | .quo=>if b=0 then none else some (.d (.i k (k.wrap (a.tdiv b))))
 | .rem=>if b=0 then none else some (.d (.i k (a.tmod b)))
 | .and=>some (.d (.i k (k.wrap (BitVec.ofInt k.bits a &&& BitVec.ofInt k.bits b).toNat)))
 | .or=>some (.d (.i k (k.wrap (BitVec.ofInt k.bits a ||| BitVec.ofInt k.bits b).toNat)))
 | .andNot=>some (.d (.i k (k.wrap (BitVec.ofInt k.bits a &&& ~~~ BitVec.ofInt k.bits b).toNat)))
 | .eql=>some (.d (.b (a==b)))
 | .neq=>some (.d (.b (a != b)))
 | .lss=>some (.d (.b (a<b)))
 | .leq=>some (.d (.b (a<=b)))
 | .gtr=>some (.d (.b (a>b)))
 | .geq=>some (.d (.b (a ≥ b)))
 |_=>none
def Yy(op:BinOp)(k:IntKind)(a b:Int):Option V:=
 if b<0 then none else
 match op with
 | .shl=>some (.d (.i k (k.wrap (a*2^(min b.toNat k.bits)))))
 | .shr=>some (.d (.i k (a.fdiv (2^(min b.toNat k.bits)))))
 |_=>none
def TQ(op:BinOp)(x y:List UInt8):Option V:=
 match op with
 | .add=>if x.length+y.length<4611686018427387904 then some (.d (.s (x++y)))else none
 | .eql=>some (.d (.b (x==y)))
 | .neq=>some (.d (.b !(x==y)))
 |_=>none
def GR:Nat->D->D->Option Bool
 |1,.b x,.b y=>some (x==y)
 |2,.i j x,.i k y=>if j=k then some (x==y)else none
 |3,.s x,.s y=>some (x==y)
 |_,_,_=>none
def xk:List Nat->List D->List D->Option Bool
 | [],[],[]=>some true
 |k::ks,x::xs,y::ys=>match GR k x y,xk ks xs ys with
  |some a,some b=>some (a&&b)
  |_,_=>none
 |_,_,_=>none
def lK(bt:List Nat)(op:BinOp)(a b:V):Option V:=
 match a,b with
 | .d (.i k x),.d (.i j y)=>match op with
  | .shl=>Yy .shl k x y
  | .shr=>Yy .shr k x y
  |op=>if k=j then OT op k x y else none
 | .d (.s x),.d (.s y)=>TQ op x y
 | .d (.b x),.d (.b y)=>if bt=[1] then(match op with
  | .eql=>some (.d (.b (x==y)))
  | .neq=>some (.d (.b !(x==y)))
  |_=>none)else none
 | .d (.g xs),.d (.g ys)=>match bt with
  |9::ks=>match op,xk ks xs ys with
   | .eql,some r=>some (.d (.b r))
   | .neq,some r=>some (.d (.b !r))
   |_,_=>none
  |_=>none
 |_,_=>none
def kindOf(P:Program)(t:TypeId):Nat:=
 match P.underlying t with
 |some .bool=>1
 |some (.int _)=>2
 |some .string=>3
 |_=>0
def rG(P:Program)(t:TypeId):Bool:=
 match P.underlying t with
 | some (.struct fs) => !P.stoodInHeld t && !(P.eqGuardType P.depth t) && fs.toList.zipIdx.all (λ (f, i) => f.name != "_" && f.offset == i && kindOf P f.type != 0)
 |_=>false
def OW(P:Program)(t:TypeId):Option (List Nat):=
 match P.underlying t with
 |some .bool=>some [1]
 |some (.int _)=>some []
 |some .string=>some []
 |some (.struct fs)=>if rG P t then some (9::fs.toList.map (λ f=>kindOf P f.type))else none
 |_=>none
def XO(op:UnOp)(a:V):Option V:=
 match op,a with
 | .neg,.d (.i k n)=>some (.d (.i k (k.wrap (0-n))))
 | .not,.d (.b x)=>some (.d (.b !x))
 |_,_=>none
def x8(s d:TypeDesc)(a:V):Option V:=
 match d,a with
 | .int k,.d (.i _ n)=>match s with
  | .int _=>some (.d (.i k (k.wrap n)))
  |_=>none
 |_,_=>none
def my:List D->Option (List UInt8)
 | []=>some []
 | .i .u8 n::xs=>(my xs).map (UInt8.ofNat n.toNat :: ·)
 |_=>none
def ofBytes(x:List UInt8):List D:=x.map λ c => .i .u8 c.toNat
def qA(a i:V):Option V:=
 match a,i with
 | .d (.s x),.d (.i _ n)=>if 0<=n then(x[n.toNat]?).map λ c => .d (.i .u8 c.toNat)else none
 |_,_=>none
def iw(sz:Nat)(a i:V):Option V:=
 match a,i with
 | .d (.l _ xs),.d (.i _ n)=>if 0<=n then(match xs[n.toNat]? with
   |some x=>if x.width=sz then some (.e xs n.toNat 0)else none
   |none=>none)else none
 | .m id off len,.d (.i _ n)=>if sz=1/\0<=n/\n<(len:Int)then some (.p id (off+n.toNat))else none
 |_,_=>none
def pQ(fo:Nat)(a:V):Option V:=
 match a with
 | .p id off=>some (.p id (off+fo))
 | .e xs i off=>some (.e xs i (off+fo))
 |_=>none
def oq(fo sz:Nat)(agg:Bool)(a:V):Option V:=
 match a with
 | .d (.g cs)=>if agg then(if fo+sz<=cs.length then some (.d (.g ((cs.drop fo).take sz)))else none) else(cs[fo]?).map .d
 |_=>none
def gQ(agg:Bool)(sz:Nat)(S:List Ob)(a:V):Option V:=
 match a with
 | .e xs i off=>match xs[i]? with
  |some x=>if agg then(if off+sz<=x.width then some (.d (.g ((x.cells.drop off).take sz)))else none) else(x.cells[off]?).map .d
  |none=>none
 | .p id off=>match bV S id with
  |some (.cells cs _)=>if agg then(if off+sz<=cs.length then(y5 ((cs.drop off).take sz)).map (λ ds => .d (.g ds))else none)else cs[off]?
  |_=>none
 |_=>none
def Qx(t:TypeDesc)(a:V):Option V:=
 match t,a with
 | .string,.d (.s x)=>some (.d (.i .i64 x.length))
 | .slice _,.d (.l _ xs)=>some (.d (.i .i64 xs.length))
 | .slice _,.m _ _ len=>some (.d (.i .i64 len))
 |_,_=>none
def pS(v:Option V)(dflt:Nat)(most:Nat):Option Nat:=
 match v with
 |none=>some dflt
 |some (.d (.i _ n))=>if 0<=n/\n<=(most:Int)then some n.toNat else none
 |_=>none
def bA(sz:Nat)(xs:List D):Bool:=
 match xs with
 | []=>true
 |x::_=>x.width==sz
def ja(sz:Nat)(a:V)(lo hi:Option V):Option V:=
 match a with
 | .d (.s x)=>match pS hi x.length x.length with
  |some h=>match pS lo 0 h with
   |some l=>some (.d (.s ((x.drop l).take (h-l))))
   |none=>none
  |none=>none
 | .d (.l _ xs)=>match pS hi xs.length xs.length with
  |some h=>match pS lo 0 h with
   |some l=>if bA sz xs then some (.d (.l false ((xs.drop l).take (h-l))))else none
   |none=>none
  |none=>none
 | .m id off len=>match pS hi len len with
  |some h=>match pS lo 0 h with
   |some l=>if sz=1 then some (.m id (off+l) (h-l))else none
   |none=>none
  |none=>none
 |_=>none
def uF(a:V)(i:Nat):Option V:=
 match a with
 | .t vs=>vs[i]?
 |_=>none
def QA(a:V):Option V:=
 match a with
 | .p id off=>some (.p id off)
 | .e xs i off=>some (.e xs i off)
 |_=>none
def lay(cs:List D)(off:Nat)(xs:List D):List D:=cs.take off++xs++cs.drop (off+xs.length)
def oo(cs:List D):List (Nat×Nat×Option V)->Option (List D)
 | []=>some cs
 |(off,sz,v)::rest=>match v with
  |some (.d x)=>if x.width=sz/\off+sz<=cs.length then oo (lay cs off x.cells) rest else none
  |_=>none
def jN(sz:Nat):Nat->List (Nat×Option V)->Option (List D)
 |_,[]=>some []
 |i,(j,v)::rest=>if i=j then(match v,jN sz (i+1) rest with
   |some (.d x),some xs=>if x.width=sz then some (x::xs)else none
   |_,_=>none)else none
def Qz:List V->Option V
 | [.d (.i k a),.d (.i j b)]=>if k=j then some (.d (.i k (if b<a then b else a)))else none
 |_=>none
def Qy:List V->Option V
 | [.d (.i k a),.d (.i j b)]=>if k=j then some (.d (.i k (if b>a then b else a)))else none
 |_=>none
abbrev Fl:=List (Nat×Nat)
abbrev Out:=V×List Ob
inductive Task where
 |call (k:Nat) (args:List V) (S:List Ob)
 |at_ (k n0:Nat) (path:List Bool) (vals:List V) (fl:Fl) (S:List Ob)
inductive Tr where
 |ret (o:Out)
 |fail
 |call (t:Task) (k:Out->Tr)
def Tr.bind:Tr->(Out->Tr)->Tr
 | .ret o,K=>K o
 | .fail,_ => .fail
 | .call t k,K => .call t λ o=>(k o).bind K
def ob{α:Type}(x:Option α)(K:α->Tr):Tr:=
 match x with
 |some a=>K a
 |none => .fail
def aO(c:Bool)(x:Tr):Tr:=
 match c with
 |true=>x
 |false => .fail
def aD(f:Task->Option Out):Tr->Option Out
 | .ret o=>some o
 | .fail=>none
 | .call t k=>match f t with
  |some o=>aD f (k o)
  |none=>none
mutual
def v8:V->Nat
 | .m id _ _=>id+1
 | .p id _=>id+1
 | .t vs=>mG vs
 |_=>0
def mG:List V->Nat
 | []=>0
 |v::vs=>max (v8 v) (mG vs)
end
def oR(rb:Nat)(S:List Ob):List Ob:=S.drop (S.length-rb)
def nB(rb:Nat)(S:List Ob):List Ob:=S.take (S.length-rb)
def oJ(rb:Nat)(S:List Ob)(o:Out):Option Out:=
 if o.2.length=rb then(if v8 o.1<=rb then some (o.1,nB rb S++o.2)else none)
 else match o.2,o.1 with
  | .cells cs fl::S',.p id off=>if id=rb/\S'.length=rb/\bI rb cs=true then some (.p S.length off,.cells cs fl::(nB rb S++S'))else none
  | .cells cs fl::S',.m id off len=>if id=rb/\S'.length=rb/\bI rb cs=true then some (.m S.length off len,.cells cs fl::(nB rb S++S'))else none
  |_,_=>none
structure Pol where
 cut:Nat->List Bool->Option (List Nat)
 app:Nat->Nat->Nat->Nat
 mR:Nat->Nat->Nat->Fl
 ext:Nat->Option (List V->List Ob->Option Out)
 fresh:Nat->Bool:=λ _=>false
 thw:Nat->List Bool->Option (Nat×Nat):=λ _ _=>none
section
variable (P : Program) (aK : Pol)
def Dr(vals:List V):Option Operand->Option (Option V)
 |none=>some none
 |some x=>match ev vals x with
  |some v=>some (some v)
  |none=>none
def partOf(fs:Array Field)(vals:List V)(p:Nat×Operand):Nat×Nat×Option V:=
 match fs[p.1]? with
 |some f=>(f.offset,(cq P f.type).getD 0,ev vals p.2)
 |none=>(0,0,none)
def fA(vals:List V)(S:List Ob)(o:Oper):Option V:=
 match o.op with
 | .move x | .assign x=>ev vals x
 | .pick c a b=>do x9 (<-ev vals c) (<-ev vals a) (<-ev vals b)
 | .build t parts=>
  match P.underlying t,ie P t with
  |some (.struct fs),some z=>if !(fs.toList.all λ f=>(cq P f.type).isSome)then none else do
   let z <-Ot z
   let cs <-oo z (parts.toList.map (partOf P fs vals))
   pure (.d (.g cs))
  |_,_=>none
 | .buildSlice t len parts=>do
  let e <-mu P t
  let sz <-cq P e
  if parts.size=len/\len*sz<=16777216/\(ie P e).isSome=true then do
   let xs <-jN sz 0 (parts.toList.map λ p=>(p.1,ev vals p.2))
   pure (.d (.l true xs))
  else none
 | .load t a=>do gQ (<-mP P t) (<-cq P t) S (<-ev vals a)
 | .nilCheck x=>do QA (<-ev vals x)
 | .binOp op t x y _=>do lK (<-OW P t) op (<-ev vals x) (<-ev vals y)
 | .unOp op _ x=>do XO op (<-ev vals x)
 | .convert s d x=>match P.underlying s,P.underlying d with
  |some s',some d'=>match s',d' with
   | .slice e,.string=>match P.underlying e with
    |some (.int .u8)=>do
     let xs <-view S 1 (<-ev vals x)
     let b <-my xs
     pure (.d (.s b))
    |_=>none
   |_,_=>do x8 s' d' (<-ev vals x)
  |_,_=>none
 | .slice t x lo hi mx=>match mx with
  |some _=>none
  |none=>match P.underlying t with
   |some .string=>do
    let s <-unS (<-ev vals x)
    ja 1 (.d (.s s)) (<-Dr vals lo) (<-Dr vals hi)
   |some (.slice e)=>do
    let v <-unL (<-ev vals x)
    ja (<-cq P e) v (<-Dr vals lo) (<-Dr vals hi)
   |_=>none
 | .fieldAddr s x f=>match P.underlying s with
  |some (.struct fs)=>match fs[f]? with
   |some g=>do
    if (<-cq P g.type)=0 then none else pQ g.offset (<-ev vals x)
   |none=>none
  |_=>none
 | .field t x f=>match P.underlying t with
  |some (.struct fs)=>match fs[f]? with
   |some g=>do oq g.offset (<-cq P g.type) (<-mP P g.type) (<-ev vals x)
   |none=>none
  |_=>none
 | .indexAddr t x i=>match P.underlying t with
  |some (.slice e)=>do iw (<-cq P e) (<-ev vals x) (<-ev vals i)
  |_=>none
 | .index t x i=>match P.underlying t with
  |some .string=>do qA (<-ev vals x) (<-ev vals i)
  |_=>none
 | .extract t i=>do uF (<-ev vals t) i
 | .call c=>match c.callee with
  | .builtin .len=>match c.argTypes[0]?,c.args[0]? with
   |some t,some x=>match P.underlying t with
    |some d=>do Qx d (<-ev vals x)
    |none=>none
   |_,_=>none
  | .builtin .min=>do Qz (<-c.args.toList.mapM (ev vals))
  | .builtin .max=>do Qy (<-c.args.toList.mapM (ev vals))
  |_=>none
 |_=>none
def tok(fl:Fl)(t:Nat):Option Nat:=(fl.find? (·.1==t)).map (·.2)
def eV(fl:Fl)(t:Nat):Fl:=fl.filter (·.1 != t)
def dK(S:List Ob)(sz:Nat)(y:V):Option (List D):=
 match y with
 | .d (.s x)=>some (ofBytes x)
 |y=>view S sz y
def dV(zs:List D):Bool:=zs.all λ x=>x.cells.all λ c=>(V.d c).one
def iv(S:List Ob)(sz by_:Nat)(fresh:Bool)(base y:V):Option V:=
 match base with
 | .d (.l full xs)=>match dK S sz y with
  |some zs=>if (fresh=true->full=true)/\bA sz xs=true/\bA sz zs=true/\(full=false->dV zs=true)/\by_<=1024/\xs.length+zs.length<=4294967296 then some (.d (.l (full&&zs.isEmpty) (xs++zs)))else none
  |none=>none
 |_=>none
def Yz(S:List Ob)(by_:Nat)(base y:V):Option Out:=
 match base with
 | .d (.l true [])=>match dK S 1 y with
  |some zs=>if bA 1 zs=true/\(zs.map V.d).all V.one=true/\by_<=1024/\zs.length<=4294967296 then some (.m S.length 0 zs.length,.cells (zs.map .d) []::S)else none
  |none=>none
 |_=>none
def re(S:List Ob)(a:V):Option (Nat×List Ob):=
 match a with
 | .p id off=>match bV S id with
  |some (.cells cs fl)=>match tok fl off with
   |some sz=>some (sz,oset S id (.cells cs (eV fl off)))
   |none=>none
  |_=>none
 |_=>none
def zF(cs:List V)(off:Nat)(xs:List V):List V:=cs.take off++xs++cs.drop (off+xs.length)
def oH(t:Option Nat)(cs:List V)(fl:Fl):Bool:=
 fl.all λ x=>if x.2=2000000 then t==some x.1 else match cs[x.1]? with
  |some (.d (.l true xs))=>decide (x.2<1000000)||xs.isEmpty
  |_=>false
def Zy(fl:Fl):Option Nat:=(fl.find? λ x=>x.2==1000000).map (·.1)
def RB(fl:Fl)(sz:Nat):Nat:=match Zy fl with
 |some t=>sz+1000000+4000000*t
 |none=>sz
def tkT(fl:Fl)(e:Nat):Bool:=match Zy fl with
 |some t=>e==t
 |none=>true
def zN(fl:Fl):Option Nat:=(fl.find? λ x=>x.2==3000000).map (·.1)
def uQ(fl:Fl)(sz:Nat):Nat:=match zN fl with
 |some t=>sz+3000000+4000000*t
 |none=>sz
def tsT(fl:Fl)(e:Nat):Bool:=match zN fl with
 |some t=>e==t
 |none=>true
def tsB(fl:Fl)(e:Nat)(b:V):Bool:=match zN fl with
 |some t=>e==t&&(match b with
  | .d (.l _ [])=>true
  |_=>false)
 |none=>true
def P1(x:Nat×Nat):Fl->Fl
 | []=>[x]
 |y::r=>if x.1<=y.1 then x::y::r else y::P1 x r
def B2(tk:Option Nat)(off:Nat)(fl:Fl):Fl:=
 match tk with
 |some z=>if z=2000000 then fl else P1 (off,z) fl
 |none=>fl
def kr(S:List Ob)(agg:Bool)(sz:Nat)(fl:Fl)(tk:Option Nat)(a v:V):Option (List Ob):=
 match a with
 | .p id off=>match bV S id with
  |some (.cells cs fl0)=>if agg then(match v with
    | .d (.g ds)=>if ds.length=sz/\off+sz<=cs.length/\oH none (ds.map .d) fl=true/\(ds.map V.d).all V.one=true then
      some (oset S id (.cells (zF cs off (ds.map .d)) (fl0.filter (λ x=>!(off<=x.1&&x.1<off+sz))++fl.map (λ x=>(off+x.1,x.2)))))else none
    |_=>none)
   else if v.one=true/\sz=1/\off<cs.length/\cj (id+1) v=true then
    some (oset S id (.cells (cs.set off v) (B2 tk off (eV fl0 off))))else none
  |_=>none
 |_=>none
def kI(S:List Ob)(t:Nat)(fl:Fl)(cs:List V):Option Out:=
 if oH (some t) cs fl=true/\cs.all V.one=true/\bI S.length cs=true then some (.p S.length 0,.cells cs fl::S)else none
def oL(S:List Ob)(t:Nat)(fl:Fl)(sz:Nat)(v:V):Option Out:=
 match v with
 | .d (.g ds)=>if ds.length=sz then kI S t fl (ds.map .d)else none
 |v=>if sz=1 then kI S t fl [v]else none
def Zz(z:D)(n c:V):Option V:=
 match n,c with
 | .d (.i _ n),.d (.i _ c)=>if 0<=n/\n<=c/\c<=4294967296/\(V.d z).one=true then some (.d (.l false (List.replicate n.toNat z)))else none
 |_,_=>none
def ou(S:List Ob)(z:V)(n c:V):Option Out:=
 match n,c with
 | .d (.i _ n),.d (.i _ c)=>if 0<=n/\n=c/\c<=4294967296/\z.one=true/\cj S.length z=true then some (.m S.length 0 n.toNat,.cells (List.replicate n.toNat z) []::S)else none
 |_,_=>none
def Wq(ops:List Oper)(t:Nat):Option Op:=(ops.find? (λ o=>o.dst==some t)).map (·.op)
def oZ(ops:List Oper)(x:Operand):Option Nat:=
 match x with
 | .tmp t=>match Wq ops t with
  |some (.move (.tmp y))=>some y
  |some (.call _)=>some t
  |_=>none
 |_=>none
def lB(ops:List Oper)(x:Operand):Option Nat:=
 match x with
 | .tmp t=>match Wq ops t with
  |some (.load _ (.tmp y))=>some y
  |_=>none
 |_=>none
def Kr(c:Call):Bool:=
 match c.argTypes[1]? with
 |none=>true
 |some t=>match P.underlying t with
  |some (.slice _)=>true
  |some .string=>true
  |_=>false
def gU(k r i:Nat)(ops:List Oper)(vals:List V)(fl:Fl)(S:List Ob)(o:Oper):Tr:=
 match o.op with
 | .box t x=>ob (cq P t) λ sz=>ob (ev vals x) λ v=>ob (oL S t (aK.mR k r i) sz v) .ret
 | .store t a x=>ob (mP P t) λ g=>ob (cq P t) λ sz=>ob (ev vals a) λ va=>ob (ev vals x) λ vx=>
   ob (kr S g sz (aK.mR k r i) (match x,o.guard with | .tmp y,none=>tok fl y|_,_=>none) va vx) λ S' => .ret (.u,S')
 | .makeSlice t n c=>ob (mu P t) λ e=>ob (ie P e) λ z=>
   aO (decide (((P.info? e).map (·.bytes)).getD 5000<=1024)&&decide (cq P e=some 1)) (match aK.app k r i,z with
   |0,[.d z]=>ob (ev vals n) λ vn=>ob (ev vals c) λ vc=>ob (Zz z vn vc) λ v => .ret (v,S)
   |1,[z]=>ob (ev vals n) λ vn=>ob (ev vals c) λ vc=>ob (ou S z vn vc) .ret
   |_,_ => .fail)
 | .buildSlice t len parts=>ob (mu P t) λ e=>aO (decide (cq P e=some 1/\parts.size=len/\len*1<=16777216/\(ie P e).isSome=true)) (match aK.app k r i with
   |1=>ob (jN 1 0 (parts.toList.map λ p=>(p.1,ev vals p.2))) λ xs=>aO ((xs.map V.d).all V.one) (.ret (.m S.length 0 xs.length,.cells (xs.map .d) []::S))
   |_ => .fail)
 | .call c=>match c.callee with
  | .builtin .append=>match c.args.toList,c.argTypes[0]? with
   | [x,y],some t=>ob (mu P t) λ e=>ob (cq P e) λ sz=>ob (ev vals x) λ bx=>ob (ev vals y) λ vy=>
    aO (Kr P c&&decide ((ie P e).map (·.length)=some sz)&&o.dst.isSome&&decide (sz<1000000)) (match aK.app k r i with
    |0=>aO (tsB (aK.mR k r i) e bx) (ob (iv S sz (((P.info? e).map (·.bytes)).getD 5000) true bx vy) λ v => .ret (v,S))
    |1=>aO (sz==1) (ob (Yz S (((P.info? e).map (·.bytes)).getD 5000) bx vy) .ret)
    |2=>ob (oZ ops x) λ q=>aO (decide (tok fl q=some (uQ (aK.mR k r i) sz))&&tsT (aK.mR k r i) e) (ob (iv S sz (((P.info? e).map (·.bytes)).getD 5000) false bx vy) λ v => .ret (v,S))
    |3=>ob (lB ops x) λ q=>ob (re S (vals.getD q .u)) λ w=>aO (decide (w.1=RB (aK.mR k r i) sz)&&tkT (aK.mR k r i) e) (ob (iv S sz (((P.info? e).map (·.bytes)).getD 5000) false bx vy) λ v => .ret (v,w.2))
    |_ => .fail)
   |_,_ => .fail
  | .value f=>ob (c.args.toList.mapM (ev vals)) λ args=>ob (ev vals f) λ vf=>match vf with
   | .f g=>aO (decide (mG args<=S.length)) (.call (.call g args (oR (mG args) S)) λ o=>ob (oJ (mG args) S o) .ret)
   |_ => .fail
  |_ => .fail
 |_ => .fail
def gM(o:Oper):Bool:=
 match o.op with
 | .box .. | .store .. | .makeSlice ..=>true
 | .buildSlice _ n _=>decide (20<=n)
 | .call c=>match c.callee with
  | .builtin .append | .value _=>true
  |_=>false
 |_=>false
def cv(k r i:Nat)(ops:List Oper)(fl:Fl)(o:Oper):Fl:=
 let fl1:=match o.dst with|some d=>eV fl d|none=>fl
 if o.guard.isSome then fl1 else
 match o.op,o.dst with
 | .assign (.tmp t),some d=>match tok fl t with
  |some z=>(d,z)::eV fl1 t
  |none=>fl1
 | .assign (.const (.slice none 0 0)),some d=>match (mu P o.type).bind (cq P) with
  |some z=>(d,uQ (aK.mR k r i) z)::fl1
  |none=>fl1
 | .store _ _ (.tmp t),_=>eV fl1 t
 | .makeSlice t _ _,some d=>if aK.app k r i=0 then(match (mu P t).bind (cq P) with
   |some z=>(d,z)::fl1
   |none=>fl1)else fl1
 | .call c,some d=>match c.callee with
  | .builtin .append=>match c.args.toList,(c.argTypes[0]?).bind (mu P) with
   | [x,_],some e=>match cq P e,aK.app k r i with
    |some z,0=>(d,uQ (aK.mR k r i) z)::fl1
    |some z,2=>match oZ ops x with
     |some q=>(d,uQ (aK.mR k r i) z)::eV fl1 q
     |none=>fl1
    |some z,3=>(d,RB (aK.mR k r i) z)::fl1
    |_,_=>fl1
   |_,_=>fl1
  |_=>fl1
 |_,_=>fl1
def rU(dst:Option Tmp)(v:V)(vals:List V):List V:=
 match dst with
 |some d=>vals.set d v
 |none=>vals
def gd(g:V)(want:Bool)(x:Option V):Option V:=
 match g with
 | .d (.b c)=>if c=want then x else some (.t [])
 | .t []=>some (.t [])
 |_=>none
def Yr(g:V)(want:Bool)(S:List Ob)(x:Tr):Tr:=
 match g with
 | .d (.b c)=>if c=want then x else .ret (.t [],S)
 | .t [] => .ret (.t [],S)
 |_ => .fail
def mm(o:Oper):Bool:=
 match o.guard with
 |none=>true
 |some _=>match o.op with
  | .call c=>match c.callee with
   | .builtin .append=>false
   |_=>true
  |_=>true
def Bm(ops:List Oper)(vals:List V)(S:List Ob)(o:Oper):Option V:=
 match o.guard with
 |none=>fA P vals S o
 |some (j,want)=>match ((ops[j]?).bind (·.dst)) with
  |some g=>gd (vals.getD g .u) want (fA P vals S o)
  |none=>none
def pg(k r i:Nat)(ops:List Oper)(vals:List V)(fl:Fl)(S:List Ob)(o:Oper):Tr:=
 match o.guard with
 |none=>gU P aK k r i ops vals fl S o
 |some (j,want)=>match ((ops[j]?).bind (·.dst)) with
  |some g=>Yr (vals.getD g .u) want S (gU P aK k r i ops vals fl S o)
  |none => .fail
def cy(o:Oper):Bool:=
 match o.op,o.guard with
 | .alloc _,none=>true
 | .box _ (.tmp _),none=>o.after.isEmpty
 |_,_=>false
def ua(_:Oper)(id:Nat):V := .p id 0
def mC(k r:Nat)(all:List Oper)(vals:List V):List Oper->Nat->List Ob->Option (List Ob)
 | [],_,S=>some S
 |o::os,i,S=>match o.op,o.guard with
  | .alloc t,none=>match ie P t with
   |some z=>match kI S t (aK.mR k r i) z with
    |some w=>mC k r all vals os (i+1) w.2
    |none=>none
   |none=>none
  | .box t (.tmp q),none=>match o.after.isEmpty with
   |true=>match all.all λ e=>e.dst != some q with
    |true=>match cq P t with
     |some sz=>match oL S t (aK.mR k r i) sz (vals.getD q .u) with
      |some w=>mC k r all vals os (i+1) w.2
      |none=>none
     |none=>none
    |false=>none
   |false=>mC k r all vals os (i+1) S
  |_,_=>mC k r all vals os (i+1) S
def km(k r:Nat)(ops:List Oper):List Oper->Nat->Nat->List V->Fl->List Ob->(List V->Fl->List Ob->Tr)->Tr
 | [],_,_,vals,fl,S,K=>K vals fl S
 |o::os,i,id,vals,fl,S,K=>
  match cy o with
  |true=>km k r ops os (i+1) (id+1) (rU o.dst (ua o id) vals) (cv P aK k r i ops fl o) S K
  |false=>match mm o with
   |false => .fail
   |true=>match gM o with
    |false=>ob (Bm P ops vals S o) λ v=>km k r ops os (i+1) id (rU o.dst v vals) (cv P aK k r i ops fl o) S K
    |true=>(pg P aK k r i ops vals fl S o).bind λ w=>km k r ops os (i+1) id (rU o.dst w.1 vals) (cv P aK k r i ops fl o) w.2 K
end
section
variable (P : Program) (aK : Pol)
def reads(o:Oper):Bool:=
 match o.op with
 | .load ..=>true
 | .convert s d _=>match P.underlying s,P.underlying d with
  |some (.slice _),some .string=>true
  |_,_=>false
 |_=>false
def lJ(o:Oper):Bool:=
 match o.op with
 | .makeSlice ..=>true
 | .assign (.const (.slice none 0 0))=>true
 | .call c=>match c.callee with
  | .builtin .append=>true
  |_=>false
 |_=>false
def rH(fl:Fl)(ops:List Oper)(t:Nat):Bool:=(tok fl t).isSome||ops.any λ o=>o.dst==some t&&lJ o
def kU(fl:Fl)(ops:List Oper)(t:Nat):Bool:=
 rH fl ops t||ops.any λ o=>o.dst==some t&&(match o.op with
  | .assign (.tmp u)=>rH fl ops u
  |_=>false)
def cls(fl:Fl)(ops:List Oper)(o:Oper):Nat:=
 if cy o then 2 else
 if gM o then 3 else
 if (match o.dst with|some d=>kU fl ops d|none=>false)then 3 else
 if reads P o then 1 else 0
def Y7:Op->Bool
 | .call c=>match c.callee with
  | .value _=>true
  |_=>false
 |_=>false
def gf(vals:List V)(id off n:Nat)(o:Oper):Bool:=
 match o.op with
 | .call c=>match c.callee with
  | .value f=>(match c.args.toList.mapM (ev vals),ev vals f with
   |some vs,some _=>bI id vs
   |_,_=>false)
  | .builtin .append=>true
  |_=>false
 | .store t a _=>match ev vals a,cq P t with
  |some (.p id' off'),some n'=>id != id'||off+n<=off'||off'+n'<=off
  |_,_=>false
 | .alloc _ | .box .. | .makeSlice .. | .buildSlice ..=>true
 | .assign _ | .move _=>true
 |_=>false
def looks(ops:List Oper)(o:Oper):List Nat:=
 (o.op.operands.toList.filterMap λ | .tmp t=>some t|_=>none)++(match o.guard with
  |some (j,_)=>((ops[j]?).bind (·.dst)).toList
  |none=>[])
def steady(ops:List Oper)(o:Oper)(j:Nat):Bool:=(ops.drop j).all λ e=>match e.dst with|some d=>!((looks ops o).contains d)|none=>true
def CR(n1:Nat)(vals:List V)(a b:Oper):Bool:=
 match a.op with
 | .load t x=>match ev vals x,cq P t with
  |some (.e ..),_=>true
  |some (.p id off),some n=>decide (id<n1)&&(mP P t==some true||n==1)&&gf P vals id off n b
  |_,_=>false
 | .convert _ _ x=>match ev vals x with
  |some (.d _)=>true
  |_=>false
 |_=>false
def mask(acc:List Nat)(o:Oper):Nat:=o.after.toList.foldl (λ s e=>if Region.binds .any e then s ||| 2^e.on ||| acc.getD e.on 0 else s) 0
def gZ:List Oper->List Nat->List Nat
 | [],acc=>acc
 |o::os,acc=>gZ os (acc++[mask acc o])
def apart(ops:List Oper)(x y:Oper):Bool:=
 (match x.dst with|some d=>!((looks ops y).contains d)&&y.dst != some d|none=>true)&&(match y.dst with|some d=>!((looks ops x).contains d)|none=>true)
def ic(n1:Nat)(fl:Fl)(ops:List Oper)(vals:List V)(bef:List Nat)(x y:Oper)(i j:Nat):Bool:=
 (bef.getD j 0).testBit i||apart ops x y &&
  match cls P fl ops x,cls P fl ops y with
  |0,_=>true
  |_,0=>true
  |2,_=>true
  |_,2=>true
  |1,1=>true
  |1,3=>CR P n1 vals x y&&steady ops x i&&steady ops y j
  |3,1=>CR P n1 vals y x&&steady ops x i&&steady ops y j
  |_,_=>false
def ru(n1:Nat)(fl:Fl)(ops:List Oper)(vals:List V):Bool:=
 let bef:=gZ ops []
 ops.zipIdx.all λ (y,j)=>y.after.all (λ e=>!Region.binds .any e||e.on<j) &&
  (match y.op with | .assign (.tmp t)=>ops.all λ o=>!(o.dst==some t&&(match o.op with | .assign _=>true|_=>false)) | .select ..=>false|_=>true) &&
  (!cy y||(match y.dst with|some d=>!kU fl ops d|none=>true)) &&
  (ops.take j).zipIdx.all λ (x,i)=>ic P n1 fl ops vals bef x y i j
def early(bef:List Nat)(draw:Bool)(i j:Nat):Bool:=j != i&&(j<i||draw && !((bef.getD j 0).testBit i))
def tK(n k r:Nat)(draw:Bool)(ops:List Oper)(vals:List V)(bef:List Nat)(o:Oper)(i:Nat):Bool:=
 match o.op with
 | .call c=>match c.callee with
  | .builtin .append=>match aK.app k r i with
   |2=>match c.args.toList with
    |x::_=>match x,oZ ops x with
     | .tmp t,some q=>q==t||(ops.take i).any (λ e=>e.dst==some t)&&ops.zipIdx.all λ (e,j)=>(!(early bef draw i j)||e.dst != some q)&&(e.dst != some t||(e.guard.isNone&&(match e.op with | .move (.tmp q')=>q'==q|_=>false)))
     |_,_=>false
    |_=>false
   |3=>match c.args.toList with
    |x::_=>match x,lB ops x with
     | .tmp t,some q=>match vals.getD q .u with
      | .p id off=>decide (id<n)&&(ops.take i).any (λ e=>e.dst==some t)&&ops.zipIdx.all λ (e,j)=>(!(early bef draw i j&&gM e)||gf P vals id off 1 e&&steady ops e j)&&(e.dst != some t||(steady ops e j&&e.guard.isNone&&(match e.op with | .load ty (.tmp q')=>q'==q&&cq P ty==some 1&&mP P ty==some false|_=>false)))
      |_=>false
     |_,_=>false
    |_=>false
   |_=>true
  |_=>true
 |_=>true
def lT(n k r:Nat)(draw:Bool)(ops:List Oper)(vals:List V):Bool:=
 let bef:=gZ ops []
 ops.zipIdx.all λ (o,i)=>tK P aK n k r draw ops vals bef o i
def lF(k r:Nat)(ops:List Oper)(draw:Bool)(vals:List V)(fl:Fl)(S:List Ob)(K:List V->Fl->List Ob->Tr):Tr:=
 ob (mC P aK k r ops vals ops 0 S) λ S1=>km P aK k r ops ops 0 S.length vals fl S1 λ vals' fl' S'=>
  aO (ru P S1.length fl ops vals') (aO (lT P aK S.length k r true ops vals') (K vals' fl' S'))
abbrev jA:=Option Nat->List V->Fl->List Ob->Tr
def cw(live:List Nat):Nat->List V->List V
 |_,[]=>[]
 |i,v::vs=>(if live.contains i then v else .u)::cw live (i+1) vs
def rn(live:List Nat)(fl:Fl):Fl:=fl.filter λ x=>live.contains x.1
def nP(n0:Nat)(S:List Ob):List Ob:=S.drop (S.length-n0)
def zJ(n0:Nat)(v:V)(S:List Ob):Option Out:=
 match v with
 | .d x=>some (.d x,nP n0 S)
 | .np=>some (.np,nP n0 S)
 | .t vs=>if bI 0 vs=true then some (.t vs,nP n0 S)else none
 | .p id off=>if n0<=id then(match bV S id with
   |some (.cells cs fl)=>if bI n0 cs=true/\n0<=S.length then some (.p n0 off,.cells cs fl::nP n0 S)else none
   |_=>none)else some (.p id off,nP n0 S)
 | .m id off len=>if n0<=id then(match bV S id with
   |some (.cells cs fl)=>if bI n0 cs=true/\n0<=S.length then some (.m n0 off len,.cells cs fl::nP n0 S)else none
   |_=>none)else some (.m id off len,nP n0 S)
 |_=>none
def US(vals:List V)(S:List Ob):ResultVar->Option V
 | .tmp t=>some (vals.getD t .u)
 | .cell a t=>do gQ (<-mP P t) (<-cq P t) S (vals.getD a .u)
def FH(vals:List V)(S:List Ob):List ResultVar->Option (List V)
 | []=>some []
 |r::rs=>match US P vals S r,FH vals S rs with
  |some v,some vs=>some (v::vs)
  |_,_=>none
def fin(fn:Func)(n0:Nat)(vals:List V)(S:List Ob):Tr:=
 ob (FH P vals S fn.results.toList) λ vs=>match vs with
  | [v]=>ob (zJ n0 v S) .ret
  |vs=>ob (zJ n0 (.t vs) S) .ret
def mE(id:Nat)(K:jA):jA:=λ e vals fl S=>
 match e with
 |some id'=>if id'=id then K none vals fl S else K (some id') vals fl S
 |none=>K none vals fl S
def trimS(n0:Nat)(vals:List V)(S:List Ob):List Ob:=nP (max n0 (mG vals)) S
def Cx(k n0:Nat)(path:List Bool)(vals:List V)(fl:Fl)(S:List Ob):Tr:=
 match aK.cut k path with
 |some live => .call (.at_ k n0 path (cw live 0 vals) (rn live fl) (trimS n0 (cw live 0 vals) S)) .ret
 |none => .call (.at_ k n0 path vals fl S) .ret
def ZW(c:V)(x y:Tr):Tr:=
 match c with
 | .d (.b t)=>if t=true then x else y
 |_ => .fail
def evalCode(fn:Func)(k n0:Nat):Code->List Bool->jA->List V->Fl->List Ob->Tr
 | .skip,_,K,vals,fl,S=>K none vals fl S
 | .region r ops draw,_,K,vals,fl,S=>lF P aK k r ops.toList draw vals fl S (K none)
 | .seq a b,path,K,vals,fl,S=>evalCode fn k n0 a (false::path) (λ e vals fl S=>
   match e with
   |some id=>K (some id) vals fl S
   |none=>match aK.cut k (true::path) with
    |some live => .call (.at_ k n0 (true::path) (cw live 0 vals) (rn live fl) (trimS n0 (cw live 0 vals) S)) .ret
    |none=>evalCode fn k n0 b (true::path) K vals fl S) vals fl S
 | .cond c a b,path,K,vals,fl,S=>ob (ev vals c) λ v=>ZW v (evalCode fn k n0 a (false::path) K vals fl S) (evalCode fn k n0 b (true::path) K vals fl S)
 | .block id c,path,K,vals,fl,S=>evalCode fn k n0 c (false::path) (mE id K) vals fl S
 | .loop _,path,_,vals,fl,S=>Cx aK k n0 path vals fl S
 | .exit id,_,K,vals,fl,S=>K (some id) vals fl S
 | .ret,_,_,vals,_,S=>fin P fn n0 vals S
 |_,_,_,_,_,_ => .fail
def Q5(fn:Func)(k n0:Nat)(b:Code)(path:List Bool)(K:jA):jA:=λ e vals fl S=>
 match e with
 |some id=>K (some id) vals fl S
 |none=>match aK.cut k (true::path) with
  |some live => .call (.at_ k n0 (true::path) (cw live 0 vals) (rn live fl) (trimS n0 (cw live 0 vals) S)) .ret
  |none=>evalCode P aK fn k n0 b (true::path) K vals fl S
def sN(k n0:Nat)(path:List Bool)(K:jA):jA:=λ e vals fl S=>
 match e with
 |some id=>K (some id) vals fl S
 |none=>Cx aK k n0 path vals fl S
def kf(fn:Func)(k n0:Nat):List Bool->Code->List Bool->jA->Option (Code×List Bool×jA)
 | [],c,path,K=>some (c,path,K)
 |false::p,.seq a b,path,K=>kf fn k n0 p a (false::path) (Q5 P aK fn k n0 b path K)
 |true::p,.seq _ b,path,K=>kf fn k n0 p b (true::path) K
 |false::p,.cond _ a _,path,K=>kf fn k n0 p a (false::path) K
 |true::p,.cond _ _ b,path,K=>kf fn k n0 p b (true::path) K
 |false::p,.block id c,path,K=>kf fn k n0 p c (false::path) (mE id K)
 |false::p,.loop c,path,K=>kf fn k n0 p c (false::path) (sN aK k n0 path K)
 |_,_,_,_=>none
def vL(fn:Func)(n0:Nat):jA:=λ e vals _ S=>
 match e with
 |none=>fin P fn n0 vals S
 |some _ => .fail
def Rm(fn:Func)(k:Nat)(args:List V)(S:List Ob):Tr:=
 ob fn.body λ c=>aO (decide (args.length<=fn.ntmps)&&bI S.length args)
  (evalCode P aK fn k S.length c [] (vL P fn S.length) (args++List.replicate (fn.ntmps-args.length) .u) [] S)
def Rk(fn:Func)(k n0:Nat)(path:List Bool)(vals:List V)(fl:Fl)(S:List Ob):Tr:=
 ob fn.body λ c=>ob (kf P aK fn k n0 path.reverse c [] (vL P fn n0)) λ l=>match l with
  |(.loop b,p,K)=>evalCode P aK fn k n0 b (false::p) (sN aK k n0 p K) vals fl S
  |(x,p,K)=>evalCode P aK fn k n0 x p K vals fl S
def ER:D->Bool
 | .b _=>true
 | .i _ _=>true
 |_=>false
def xH:D->Bool
 | .s _=>true
 |_=>false
def jk(id:Nat):V->Bool
 | .d (.l _ xs)=>xs.all ER
 | .d (.g _)=>false
 | .d _=>true
 | .m i _ _=>i != id
 | .p i _=>i != id
 | .np=>true
 | .u=>true
 |_=>false
def jy(id:Nat):List Ob->Bool
 | []=>true
 |o::S=>(if id=S.length then true else match o with
  | .cells cs []=>cs.all (jk id)
  |_=>false)&&jy id S
def Kv(fl:Fl)(d:Nat):Bool:=match tok fl d with
 |some z=>decide (3000000<=z%4000000)&&decide (z%1000000=1)
 |none=>false
def tM(id:Nat)(xs:List D)(S:List Ob):List Ob:=if id=S.length then .cells (xs.map .d) []::S else oset S id (.cells (xs.map .d) [])
def yS(k n0:Nat)(path:List Bool)(vals:List V)(fl:Fl)(S:List Ob)(K:Tr):Tr:=
 match aK.thw k path with
 |none=>K
 |some (d,id)=>match vals.getD d .u with
  | .d x=>match x with
   | .l _ xs=>aO (n0==0&&Kv fl d&&decide (d<vals.length)&&decide (id<=S.length)) (aO (xs.all xH) (aO ((vals.set d .u).all (jk id)) (aO (jy id S)
     (.call (.at_ k n0 path (vals.set d (.m id 0 xs.length)) [] (tM id xs S)) .ret))))
   |_ => .fail
  |_=>K
def step:Task->Tr
 | .call k args S=>match aK.ext k with
  |some f=>ob (f args S) .ret
  |none=>ob P.funcs[k]? λ fn=>Rm P aK fn k args S
 | .at_ k n0 path vals fl S=>yS aK k n0 path vals fl S (ob P.funcs[k]? λ fn=>Rk P aK fn k n0 path vals fl S)
def runN:Nat->Task->Option Out
 |0,_=>none
 |n+1,t=>aD (runN n) (step P aK t)
open Classical in
noncomputable def run(t:Task):Option Out:=if h:∃r n,runN P aK n t=some r then some h.choose else none
end
theorem jn{f g:Task->Option Out}(h:∀t r,f t=some r->g t=some r):∀(x:Tr) (r:Out),aD f x=some r->aD g x=some r
 | .ret _,_,e=>e
 | .fail,_,e=>by simp[aD]at e
 | .call t k,r,e=>by
  simp only[aD]at e⊢
  cases hf:f t with
  |none=>rw[hf]at e;simp at e
  |some o=>rw[hf]at e;rw[h t o hf];exact jn h (k o) r e
section
variable {P : Program} {aK : Pol}
theorem Bv:∀(n:Nat) (t:Task) (r:Out),runN P aK n t=some r->runN P aK (n+1) t=some r
 |0,_,_,e=>by simp[runN]at e
 |n+1,t,r,e=>jn (Bv n) _ r e
theorem Kh{n m:Nat}(h:n<=m)(t:Task)(r:Out)(e:runN P aK n t=some r):runN P aK m t=some r:=by
 induction h with
 |refl=>exact e
 |step _ ih=>exact Bv _ t r ih
theorem yx{t:Task}{r:Out}:run P aK t=some r↔∃n,runN P aK n t=some r:=by
 constructor
 ·intro h;unfold run at h;split at h
  ·rename_i hx;obtain⟨n,hn⟩:=hx.choose_spec;injection h with h
   exact⟨n,h▸hn⟩
  ·simp at h
 ·rintro⟨n,hn⟩;have hx:∃r n,runN P aK n t=some r:=⟨r,n,hn⟩
  unfold run;rw[dif_pos hx];obtain⟨m,hm⟩:=hx.choose_spec;have h1:=Kh (Nat.le_max_left n m) t r hn;have h2:=Kh (Nat.le_max_right n m) t _ hm;rw[h1]at h2;exact h2.symm
end
theorem pE(f:Task->Option Out)(K:Out->Tr):∀x:Tr,aD f (x.bind K)=(aD f x).bind λ o=>aD f (K o)
 | .ret _=>rfl
 | .fail=>rfl
 | .call t k=>by
  simp only[Tr.bind,aD]
  cases f t with
  |none=>rfl
  |some o=>exact pE f K (k o)
theorem bE{α:Type}(f:Task->Option Out)(x:Option α)(K:α->Tr):aD f (ob x K)=x.bind λ a=>aD f (K a):=by cases x<;>rfl
theorem bS(f:Task->Option Out)(c:Bool)(x:Tr):aD f (aO c x)=if c=true then aD f x else none:=by cases c<;>rfl
theorem fP(f:Task->Option Out)(t:Task)(K:Out->Tr):aD f (.call t K)=(f t).bind λ o=>aD f (K o):=by simp only[aD];cases f t<;>rfl
theorem Addr.add_plain(b o i:Nat):(⟨b,o,none⟩:Addr).add i=⟨b,o+i,none⟩:=by
 unfold Addr.add;split
 ·rename_i h;simp[h]
 ·rfl
section
variable {P : Program} {w : World}
theorem dn{t:TypeId}{n:Nat}(h:cq P t=some n):(sizeOf t).run P w = .ok n w:=by
 unfold cq at h
 cases hi:P.info? t with
 |none=>rw[hi]at h;simp at h
 |some i=>rw[hi]at h;simp at h;subst h;simp[sizeOf,run_typeInfo w hi]
theorem iz{t:TypeId}{g:Bool}(h:mP P t=some g):(isAgg t).run P w = .ok g w:=by
 unfold mP at h
 cases hu:P.underlying t with
 |none=>rw[hu]at h;simp at h
 |some d=>rw[hu]at h;simp at h;subst h;cases d<;>simp[isAgg,run_underlying hu]
theorem run_loadCellsFrom(b o:Nat):∀(l:List Value) (i:Nat) (acc:Array Value),(∀(j:Nat) v,l[j]?=some v->w.cell? ⟨b,o+(i+j),none⟩=some v)->
  (loadCellsFrom ⟨b,o,none⟩ i l.length acc).run P w = .ok (acc++l.toArray) w
 | [],i,acc,_=>by simp[loadCellsFrom]
 |v::l,i,acc,h=>by
  have h0:=h 0 v rfl;simp only[aaT,loadCellsFrom,Sem.run_bind,Addr.add_plain,run_load];rw[Nat.add_zero]at h0;rw[h0];simp only[Result.andThen_ok];rw[run_loadCellsFrom b o l (i+1) (acc.push v) λ j x hj=>by
   have:=h (j+1) x (by simpa using hj)
   rwa[show i+1+j=i+(j+1) by omega]]
  simp
theorem run_loadCells{b o n:Nat}{l:List Value}(hn:l.length=n)(h:∀(j:Nat) v,l[j]?=some v->w.cell? ⟨b,o+j,none⟩=some v):
  (loadCells ⟨b,o,none⟩ n).run P w = .ok l.toArray w:=by
 subst hn;unfold loadCells;rw[run_loadCellsFrom b o l 0 #[] (by simpa using h)];simp
theorem mZ{R:Nat->Value->Prop}{b o:Nat}:∀(n:Nat),(∀j,j<n->∃v,w.cell? ⟨b,o+j,none⟩=some v/\R j v)->
  ∃l:List Value,l.length=n/\(∀(j:Nat) v,l[j]?=some v->w.cell? ⟨b,o+j,none⟩=some v)/\∀j,j<n->∃v,l[j]?=some v/\R j v
 |0,_=>⟨[],rfl,by simp,by simp⟩
 |n+1,h=>by
  obtain⟨l,hl,h1,h2⟩:=mZ n λ j hj=>h j (by omega);obtain⟨v,hv,hr⟩:=h n (by omega);refine⟨l++[v],by simp[hl],?_,?_⟩
  ·intro j x hj;rcases Nat.lt_trichotomy j n with hlt|heq|hgt
   ·rw[List.getElem?_append_left (by omega)]at hj;exact h1 j x hj
   ·subst heq;rw[List.getElem?_append_right (by omega),hl]at hj;simp at hj;subst hj;exact hv
   ·rw[abN (by simp[hl];omega)]at hj;simp at hj
  ·intro j hj;by_cases e:j=n
   ·subst e;exact⟨v,by rw[List.getElem?_append_right (by omega),hl];simp,hr⟩
   ·obtain⟨x,hx,hr⟩:=h2 j (by omega)
    exact⟨x,by rw[List.getElem?_append_left (by omega)];exact hx,hr⟩
theorem dR:∀{S:List Ob} {id:Nat} {o:Ob},bV S id=some o->id<S.length
 | [],_,_,h=>by simp[bV]at h
 |x::S,id,o,h=>by
  simp only[bV]at h;split at h
  ·rename_i e;simp[e]
  ·have:=dR h;simp;omega
end
theorem vE{F:Fz}{v:Value}{d:D}(h:sU v=some d):RD F d v/\d.width=1:=by
 unfold sU at h;split at h<;>simp at h<;>subst h<;>simp only[RD,D.width,and_true]
 ·refine⟨none,0,0,0,?_⟩;refine⟨rfl,rfl,aa4 _,λ _=>rfl,?_,by simp⟩;intro x hx;simp at hx
theorem sV{F:Fz}:∀{vs:List Value} {ds:List D},nn vs=some ds->eg F ds vs
 | [],ds,h=>by simp[nn]at h;subst h;simp only[eg]
 |v::vs,ds,h=>by
  simp only[nn]at h;split at h
  ·rename_i d r hd hr;simp at h;subst h;simp only[eg];exact⟨v,vs,rfl,(vE hd).1,sV hr⟩
  ·simp at h
theorem Fg{G:Sg}{v:Value}{x:V}(h:JW v=some x):RV G x v:=by
 unfold JW at h;split at h
 ·split at h
  ·rename_i hd;simp at h;subst h;simp only[RV,RD];exact⟨_,rfl,sV hd⟩
  ·simp at h
 ·simp at h;subst h;simp only[RV]
 ·simp at h;subst h;simp only[RV]
 ·simp at h
 ·split at h
  ·rename_i hd;simp at h;subst h;simp only[RV];exact(vE hd).1
  ·simp at h
theorem uH{G:Sg}:∀{vs:List Value} {xs:List V},uG vs=some xs->eY G xs vs
 | [],ds,h=>by simp[uG]at h;subst h;simp only[eY]
 |v::vs,ds,h=>by
  simp only[uG]at h;split at h
  ·rename_i d r hd hr;simp at h;subst h;simp only[eY];exact⟨v,vs,rfl,Fg hd,uH hr⟩
  ·simp at h
def Fr(G:Sg)(vals:List V)(a:Act):Prop:=∀t,RV G (vals.getD t .u) (a.tmps.getD t undef)
theorem eh{G:Sg}{vals:List V}{a:Act}(hf:Fr G vals a){x:Operand}{v:V}(h:ev vals x=some v):RV G v (a.eval x):=by
 cases x with
 |tmp t=>simp[ev]at h;subst h;exact hf t
 |const c=>exact Fg h
 |func f=>simp[ev]at h;subst h;simp only[Act.eval,RV]
 |global g=>simp[ev]at h
theorem S7{v:V}{d:D}(h:ZH v=some d):v = .d d:=by cases v<;>simp[ZH]at h;subst h;rfl
theorem De:∀{vs:List V} {ds:List D},y5 vs=some ds->vs=ds.map .d
 | [],ds,h=>by simp[y5]at h;subst h;rfl
 |v::vs,ds,h=>by
  simp only[y5]at h;split at h
  ·rename_i d r hd hr;simp at h;subst h;rw[S7 hd,De hr];rfl
  ·simp at h
section
variable {P : Program} {w : World} {G : Sg} {t : TypeId}
def Yl(P:Program)(w:World)(G:Sg)(s:Sem Value)(v:V):Prop:=∃x,s.run P w = .ok x w/\RV G v x
theorem UK{c a b v:V}{vc va vb:Value}(hc:RV G c vc)(ha:RV G a va)(hb:RV G b vb)(h:x9 c a b=some v):
  Yl P w G (do pure (if <-asBool vc then va else vb)) v:=by
 cases c<;>simp[x9]at h;rename_i x;cases x<;>simp at h;rename_i t;simp only[RV,RD]at hc;subst hc;cases t<;>simp at h<;>subst h
 ·exact⟨vb,by simp[asBool],hb⟩
 ·exact⟨va,by simp[asBool],ha⟩
theorem so(x:List UInt8):(⟨x.toArray⟩:ByteArray).toList=x:=by rw[ByteArray.toList_eq]
theorem TO{op:BinOp}{k:IntKind}{a b:Int}{v:V}{t:TypeId}(h:OT op k a b=some v):Yl P w G (binOp op t (.int k a) (.int k b)) v:=by
 cases op<;>simp[OT]at h
 case quo=>obtain⟨hb,rfl⟩:=h;simp[Yl,binOp,Op.intDiv,hb,RV,RD]
 case rem=>obtain⟨hb,rfl⟩:=h;simp[Yl,binOp,Op.intDiv,hb,RV,RD]
 all_goals (subst h;simp[Yl,binOp,Op.intArith,Op.intBits,Op.intCmp,RV,RD])
theorem Ra{op:BinOp}{k j:IntKind}{a b:Int}{v:V}{t:TypeId}(h:Yy op k a b=some v):Yl P w G (binOp op t (.int k a) (.int j b)) v:=by
 unfold Yy at h;split at h
 ·simp at h
 ·rename_i hb;cases op<;>simp at h
  all_goals (subst h;simp[Yl,binOp,Op.shift,hb,RV,RD])
theorem TR{op:BinOp}{x y:List UInt8}{v:V}{t:TypeId}(h:TQ op x y=some v):Yl P w G (binOp op t (.string ⟨x.toArray⟩) (.string ⟨y.toArray⟩)) v:=by
 cases op<;>simp[TQ]at h
 case add=>
  obtain⟨hl,rfl⟩:=h;refine⟨.string ⟨(x++y).toArray⟩,?_,by simp only[RV,RD]⟩;have hmx:IntKind.i64.max=9223372036854775807:=rfl;have h1:¬(IntKind.i64.max<((x.length+y.length:Nat):Int)):=by omega
  have h2:(⟨x.toArray⟩:ByteArray)++⟨y.toArray⟩=⟨(x++y).toArray⟩:=by apply ByteArray.ext;simp
  have hs:∀z:List UInt8,(⟨z.toArray⟩:ByteArray).size=z.length:=λ z=>rfl;simp only[binOp,Op.stringOp,hs,gt_iff_lt];rw[aaN h1,h2];simp
 all_goals (subst h;simp[Yl,binOp,Op.stringOp,RV,RD])
theorem HN(h:kindOf P t=1):P.underlying t=some .bool:=by unfold kindOf at h;split at h<;>simp_all
theorem HO(h:kindOf P t=2):∃k,P.underlying t=some (.int k):=by unfold kindOf at h;split at h<;>simp_all
theorem CD(h:kindOf P t=3):P.underlying t=some .string:=by unfold kindOf at h;split at h<;>simp_all
theorem Xf{d:Nat}{t:TypeId}{a b:D}{r:Bool}{x y:Value}(ha:RD G.F a x)(hb:RD G.F b y)(h:GR (kindOf P t) a b=some r):
  (Op.equalIn (d+1) t x y).run P w = .ok r w:=by
 unfold GR at h;split at h
 ·rename_i e;simp at h;subst h;simp only[RD]at ha hb;subst ha;subst hb;exact run_equalIn_bool' w _ t _ _ (HN e)
 ·rename_i e;simp at h;obtain⟨rfl,rfl⟩:=h;simp only[RD]at ha hb;subst ha;subst hb;obtain⟨k,hk⟩:=HO e;exact run_equalIn_int w _ t _ _ _ _ hk
 ·rename_i e;simp at h;subst h;simp only[RD]at ha hb;subst ha;subst hb;rw[run_equalIn_string w _ t _ _ (CD e),so,so]
 ·simp at h
theorem Jt{d:Nat}{X Y:Array Value}:∀(fs:List Field) (i:Nat) (xs ys:List D) (r:Bool),
  (∀ f ∈ fs.zipIdx i, f.1.name ≠ "_" ∧ f.1.offset = f.2 ∧ kindOf P f.1.type ≠ 0) →
  (∀(j:Nat) c,xs[j]?=some c->∃v,X[i+j]?=some v/\RD G.F c v)->(∀(j:Nat) c,ys[j]?=some c->∃v,Y[i+j]?=some v/\RD G.F c v)->
  xk (fs.map λ f=>kindOf P f.type) xs ys=some r->(Op.eqFields (d+1) X Y fs).run P w = .ok r w
 | [],i,xs,ys,r,_,_,_,h=>by
  cases xs<;>cases ys<;>simp[xk]at h;subst h;simp[Op.eqFields]
 |f::fs,i,[],ys,r,_,_,_,h=>by simp[xk]at h
 |f::fs,i,x::xs,[],r,_,_,_,h=>by simp[xk]at h
 |f::fs,i,x::xs,y::ys,r,hf,hx,hy,h=>by
  simp only[List.map_cons,xk]at h;split at h
  ·rename_i a b ha hb;simp at h;subst h;obtain⟨hn,ho,hk⟩:=hf (f,i) (by simp);dsimp only at hn ho hk;obtain⟨vx,hx0,hrx⟩:=hx 0 x rfl;obtain⟨vy,hy0,hry⟩:=hy 0 y rfl;have hag:(isAgg f.type).run P w = .ok false w:=by unfold kindOf at hk;split at hk<;>rename_i hu<;>first|(simp[isAgg,run_underlying hu];done)|simp at hk
   have p1:(part f.type X f.offset).run P w = .ok vx w:=by simp only[part,Sem.run_bind,hag,Result.andThen_ok,Bool.false_eq_true,if_false,ho];simp only[Nat.add_zero]at hx0;rw[hx0];simp
   have p2:(part f.type Y f.offset).run P w = .ok vy w:=by simp only[part,Sem.run_bind,hag,Result.andThen_ok,Bool.false_eq_true,if_false,ho];simp only[Nat.add_zero]at hy0;rw[hy0];simp
   have p3:=Xf (d:=d) (w:=w) hrx hry ha
   have ih:=Jt (d:=d) fs (i+1) xs ys b (λ g hg=>hf g (by simp[hg]))
    (λ j c hj=>by obtain⟨v,e,hr⟩:=hx (j+1) c (by simpa using hj);exact⟨v,by rw[aby,Nat.add_comm 1 j];exact e,hr⟩)
    (λ j c hj=>by obtain⟨v,e,hr⟩:=hy (j+1) c (by simpa using hj);exact⟨v,by rw[aby,Nat.add_comm 1 j];exact e,hr⟩) hb
   simp only[Op.eqFields,Sem.run_ite,Sem.run_bind,p1,p2,p3,Result.andThen_ok];rw[aaR hn];cases a
   ·simp
   ·simpa using ih
  ·simp at h
theorem WY{op:BinOp}{t:TypeId}{x y:Operand}{a b v:V}{va vb:Value}{bt:List Nat}(hbt:OW P t=some bt)(ha:RV G a va)(hb:RV G b vb)(h:lK bt op a b=some v):
  Yl P w G (do eqGuard op t x y va vb;binOp op t va vb) v:=by
 unfold lK at h;split at h
 ·simp only[RV,RD]at ha hb;subst ha;subst hb;have hg:∀s:Sem Value,Yl P w G s v->∀k j n m,Yl P w G (do eqGuard op t x y (.int k n) (.int j m);s) v:=by rintro s ⟨z,hz,hr⟩ k j n m;exact⟨z,by cases op<;>simp[eqGuard,hz],hr⟩
  split at h
  ·exact hg _ (Ra h) _ _ _ _
  ·exact hg _ (Ra h) _ _ _ _
  ·split at h
   ·rename_i e;subst e;exact hg _ (TO h) _ _ _ _
   ·simp at h
 ·simp only[RV,RD]at ha hb;subst ha;subst hb;obtain⟨z,hz,hr⟩:=TR (P:=P) (w:=w) (G:=G) (t:=t) h;exact⟨z,by cases op<;>simp[eqGuard,hz],hr⟩
 ·simp only[RV,RD]at ha hb;subst ha;subst hb;split at h
  ·rename_i e;have hu:P.underlying t=some .bool:=by unfold OW at hbt;subst e;split at hbt<;>simp_all
   split at h<;>simp at h<;>subst h
   ·simp[Yl,eqGuard,binOp,Op.equal,Op.maxDepth,run_equalIn_bool' w 9999 t _ _ hu,RV,RD]
   ·simp[Yl,eqGuard,binOp,Op.equal,Op.maxDepth,run_equalIn_bool' w 9999 t _ _ hu,RV,RD]
  ·simp at h
 ·rename_i xs ys;split at h
  ·rename_i ks;have hu:∃fs,P.underlying t=some (.struct fs)/\rG P t=true/\ks=fs.toList.map (λ f=>kindOf P f.type):=by unfold OW at hbt;split at hbt<;>simp_all
   obtain⟨fs,hfs,hfl,rfl⟩:=hu;simp only[rG,hfs,Bool.and_eq_true,Bool.not_eq_true']at hfl;obtain⟨⟨h1,h2⟩,h3⟩:=hfl;simp only[RV,RD]at ha hb;obtain⟨X,rfl,hX⟩:=ha;obtain⟨Y,rfl,hY⟩:=hb;have hof:P.fieldsOf t=fs:=by simp[Program.fieldsOf,hfs]
   have key:∀r,xk (fs.toList.map λ f=>kindOf P f.type) xs ys=some r->(Op.equalIn 10000 t (.agg X) (.agg Y)).run P w = .ok r w:=by
    intro r hr;rw[show (10000:Nat)=9999+1 from rfl,run_equalIn_agg w 9999 t X Y (by rw[hof];exact hfs) h1,hof];refine Jt (d:=9998) (G:=G) fs.toList 0 xs ys r ?_ ?_ ?_ hr
    ·intro f hf;have:=abu.1 h3 f hf;simpa[and_assoc]using this
    ·intro j c hj;obtain⟨v,e,hr⟩:=eg.get hX hj;exact⟨v,by simpa using e,hr⟩
    ·intro j c hj;obtain⟨v,e,hr⟩:=eg.get hY hj;exact⟨v,by simpa using e,hr⟩
   have hg:(eqGuard op t x y (.agg X) (.agg Y)).run P w = .ok () w:=run_eqGuard_agg w op t x y X Y h2;split at h
   ·rename_i r hr;simp at h;subst h;refine⟨.bool r,?_,by simp only[RV,RD]⟩;simp only[Sem.run_bind,hg,Result.andThen_ok,run_eql_struct,key r hr]
   ·rename_i r hr;simp at h;subst h;refine⟨.bool (!r),?_,by simp only[RV,RD]⟩;simp only[Sem.run_bind,hg,Result.andThen_ok,run_neq_struct,key r hr]
   ·simp at h
  ·simp at h
 ·simp at h
end
section
variable {P : Program} {w : World} {G : Sg} {t : TypeId}
theorem ZI{op:UnOp}{a v:V}{va:Value}(ha:RV G a va)(h:XO op a=some v):Yl P w G (Op.unary op va) v:=by
 unfold XO at h;split at h<;>simp at h<;>subst h<;>simp only[RV,RD]at ha<;>subst ha
 ·simp[Yl,Op.unary,Op.intArith,RV,RD]
 ·simp[Yl,Op.unary,RV,RD]
theorem TW{s d:TypeId}{s' d':TypeDesc}{a v:V}{va:Value}(hs:P.underlying s=some s')(hd:P.underlying d=some d')(ha:RV G a va)(h:x8 s' d' a=some v):Yl P w G (convert s d va) v:=by
 unfold x8 at h;split at h
 ·split at h<;>simp at h;subst h;simp only[RV,RD]at ha;subst ha;simp[Yl,convert,run_underlying hs,run_underlying hd,Conv.intToInt,RV,RD]
 ·simp at h
theorem Mk(x:List UInt8)(n:Nat):(⟨x.toArray⟩:ByteArray)[n]?=x[n]?:=by
 by_cases h:n<x.length
 ·have h':n<(⟨x.toArray⟩:ByteArray).size:=h;rw[getElem?_pos (⟨x.toArray⟩:ByteArray) n h',abl h];rfl
 ·have h':¬n<(⟨x.toArray⟩:ByteArray).size:=h;rw[getElem?_neg (⟨x.toArray⟩:ByteArray) n h',abN (by omega)]
theorem P0{a i v:V}{va vi:Value}(hu:P.underlying t=some .string)(ha:RV G a va)(hi:RV G i vi)(h:qA a i=some v):Yl P w G (Instr.index t va vi) v:=by
 unfold qA at h;split at h
 ·simp only[RV,RD]at ha hi;subst ha;subst hi;split at h
  ·rename_i hn;simp at h;obtain⟨c,hc,rfl⟩:=h;simp[Yl,Instr.index,asIntOf,run_underlying hu,hn,Mk,hc,RV,RD]
  ·simp at h
 ·simp at h
theorem F2{xs:List D}{sz:Nat}(h:sized xs sz){i:Nat}{x:D}(hi:xs[i]?=some x):x.width=sz:=h x (abQ hi)
theorem CB{e:TypeId}{sz:Nat}{a i v:V}{va vi:Value}(hu:P.underlying t=some (.slice e))(hsz:cq P e=some sz)(ha:RV G a va)(hi:RV G i vi)(h:iw sz a i=some v):
  Yl P w G (Instr.indexAt t va vi) v:=by
 unfold iw at h;split at h
 ·rename_i fl xs k n;simp only[RV,RD]at hi;subst hi;split at h
  ·rename_i hn;split at h
   ·rename_i x hx;split at h
    ·rename_i hw;simp at h;subst h;simp only[RV,RD]at ha;obtain⟨A,m,c,sz',rfl,rfl,hc,hfull,hs,hr⟩:=ha;have hne:xs≠[]:=by intro e;subst e;simp at hx
     obtain⟨blk,off,rfl,hel⟩:=hr hne;have hlt:n.toNat<xs.length:=(abE.1 hx).1;have hszz:sz'=sz:=by rw[<-F2 hs hx,hw]
     subst hszz;refine⟨.pointer (some ⟨blk,off+n.toNat*sz',none⟩),?_,?_⟩
     ·simp only[Instr.indexAt,asIntOf,Sem.run_bind,Sem.run_pure,Result.andThen_ok,run_underlying hu];rw[aaR ⟨hn,by omega⟩];simp[dn hsz,Addr.add_plain]
     ·simp only[RV];exact⟨blk,off,sz',by simp,hs,hel⟩
    ·simp at h
   ·simp at h
  ·simp at h
 ·rename_i id off len k n;simp only[RV,RD]at hi;subst hi;split at h
  ·rename_i hc;obtain⟨rfl,hn0,hn1⟩:=hc;simp at h;subst h;simp only[RV]at ha;obtain⟨A,c,rfl,hc,hb⟩:=ha;obtain⟨blk,ho,rfl⟩:=hb (by omega);refine⟨.pointer (some ⟨blk,off+n.toNat,none⟩),?_,by simp only[RV];exact⟨blk,ho,rfl⟩⟩;simp only[Instr.indexAt,asIntOf,Sem.run_bind,Sem.run_pure,Result.andThen_ok,run_underlying hu];rw[aaR ⟨hn0,hn1⟩];simp[dn hsz,Addr.add_plain]
  ·simp at h
 ·simp at h
theorem Co{fs:Array Field}{f:Nat}{g:Field}{n:Nat}{a v:V}{va:Value}(hu:P.underlying t=some (.struct fs))(hf:fs[f]?=some g)(hsz:cq P g.type=some n)(hn:n≠0)(ha:RV G a va)(h:pQ g.offset a=some v):
  Yl P w G (Instr.fieldAt t va f) v:=by
 unfold pQ at h;split at h<;>simp at h<;>subst h<;>simp only[RV]at ha
 ·obtain⟨blk,ho,rfl⟩:=ha;refine⟨.pointer (some ⟨blk,_+g.offset,none⟩),?_,by simp only[RV];exact⟨blk,ho,rfl⟩⟩;simp[Instr.fieldAt,run_underlying hu,hf,Instr.sureAddr,fieldPlace,dn hsz,hn,Addr.add_plain]
 ·rename_i xs i off;obtain⟨blk,o,sz,rfl,hs,hr⟩:=ha;refine⟨.pointer (some ⟨blk,o+i*sz+(off+g.offset),none⟩),?_,by simp only[RV];exact⟨blk,o,sz,rfl,hs,hr⟩⟩;simp[Instr.fieldAt,run_underlying hu,hf,Instr.sureAddr,fieldPlace,dn hsz,hn,Addr.add_plain,aby]
theorem eg.sub{F:Fz}{cs:List D}{vs:List Value}(h:eg F cs vs)(o n:Nat):eg F ((cs.drop o).take n) ((vs.drop o).take n):=by
 have hl:=eg.length h;refine eg.of_get (by simp[hl]) λ i x hi=>?_;have hi':i<n:=by
  rcases abn i n with h' | h'
  ·exact h'
  ·rw[abN (by simp;omega)]at hi;simp at hi
 rw[abP hi',List.getElem?_drop]at hi⊢;exact eg.get h hi
theorem PK{fs:Array Field}{f:Nat}{g:Field}{n:Nat}{ag:Bool}{a v:V}{va:Value}(hu:P.underlying t=some (.struct fs))(hf:fs[f]?=some g)(hsz:cq P g.type=some n)(hag:mP P g.type=some ag)(ha:RV G a va)(h:oq g.offset n ag a=some v):
  Yl P w G (Instr.field t va f) v:=by
 unfold oq at h;split at h
 ·rename_i cs;simp only[RV,RD]at ha;obtain⟨vs,rfl,hr⟩:=ha;cases ag
  ·simp at h;obtain⟨c,hc,rfl⟩:=h;obtain⟨y,hy,hry⟩:=eg.get hr hc;have hy':vs[g.offset]?=some y:=by simpa using hy
   exact⟨y,by simp[Instr.field,run_underlying hu,hf,asAgg,part,iz hag,hy'],by simpa only[RV]using hry⟩
  ·simp at h;obtain⟨hle,rfl⟩:=h;refine⟨.agg (vs.extract g.offset (g.offset+n)),by simp[Instr.field,run_underlying hu,hf,asAgg,part,iz hag,dn hsz],?_⟩;simp only[RV,RD];refine⟨_,rfl,?_⟩;have:=eg.sub hr g.offset n;simpa[Array.toList_extract,List.extract_eq_take_drop]using this
 ·simp at h
theorem JH{S:List Ob}(hI:Inv w G S){n:Nat}{ag:Bool}{a v:V}{va:Value}(hsz:cq P t=some n)(hag:mP P t=some ag)(ha:RV G a va)(h:gQ ag n S a=some v):
  Yl P w G (Instr.loadAt t va) v:=by
 unfold gQ at h;split at h
 ·rename_i xs i off;split at h
  ·rename_i x hx;simp only[RV]at ha;obtain⟨blk,o,sz,rfl,hs,hr⟩:=ha;have hat:=nI.1 (bN.get hs hr hx);cases ag
   ·simp at h;obtain⟨c,hc,rfl⟩:=h;obtain⟨y,hy,hry⟩:=cN.get hat hc;have hcell:=hI.fz _ _ _ hy;refine⟨y,?_,by simpa only[RV]using hry⟩;simp[Instr.loadAt,Instr.sureAddr,loadVar,iz hag,hcell]
   ·simp at h;obtain⟨hle,rfl⟩:=h;have hrow:∀j,j<n->∃y,w.cell? ⟨blk,(o+i*sz+off)+j,none⟩=some y/\∃c,(x.cells)[off+j]?=some c/\RD G.F c y:=by
     intro j hj;have hlt:off+j<x.cells.length:=by rw[D.cells_length];omega
     obtain⟨y,hy,hry⟩:=cN.get hat (abl hlt);exact⟨y,by have:=hI.fz _ _ _ hy;rwa[aby],_,abl hlt,hry⟩
    obtain⟨l,hl,h1,h2⟩:=mZ n hrow;refine⟨.agg l.toArray,?_,?_⟩
    ·simp[Instr.loadAt,Instr.sureAddr,loadVar,iz hag,dn hsz,run_loadCells hl h1]
    ·simp only[RV,RD];refine⟨_,rfl,eg.of_get (by simp[hl,D.cells_length];omega) λ j c hj=>?_⟩;have hjn:j<n:=by
      rcases abn j n with h' | h'
      ·exact h'
      ·rw[abN (by simp;omega)]at hj;simp at hj
     obtain⟨y,hy,c',hc',hrc⟩:=h2 j hjn;rw[abP hjn,List.getElem?_drop,hc']at hj;simp at hj;subst hj;exact⟨y,by simpa using hy,hrc⟩
  ·simp at h
 ·rename_i id off;split at h
  ·rename_i cs fl hob;simp only[RV]at ha;obtain⟨blk,ho,rfl⟩:=ha;obtain⟨_,o',go,hs',hgo,hor⟩:=hI.ob _ _ ho;rw[hob]at hs';simp at hs';subst hs';cases go<;>simp only[kQ]at hor;rename_i arr el fz;obtain⟨hlen,hcells,_⟩:=hor;have hcell:∀j c,cs[j]?=some c->∃y,w.cell? ⟨blk,j,none⟩=some y/\RV G c y:=by intro j c hj;obtain⟨y,hy,hry,_,_⟩:=hcells j c hj;exact⟨y,by simp[World.cell?,hgo,hy],hry⟩
   cases ag
   ·simp at h;obtain⟨y,hy,hry⟩:=hcell _ _ h;exact⟨y,by simp[Instr.loadAt,Instr.sureAddr,loadVar,iz hag,hy],hry⟩
   ·simp at h;obtain⟨hle,ds,hds,rfl⟩:=h;have hmap:=De hds;have hdl:ds.length=n:=by have:=congrArg List.length hmap;simp at this;omega
    have hrow:∀j,j<n->∃y,w.cell? ⟨blk,off+j,none⟩=some y/\∃c,ds[j]?=some c/\RD G.F c y:=by
     intro j hj;have hlt:j<ds.length:=by omega
     have e1:((cs.drop off).take n)[j]?=some (.d ds[j]):=by rw[hmap];simp[abl hlt]
     rw[abP hj,List.getElem?_drop]at e1;obtain⟨y,hy,hry⟩:=hcell _ _ e1;exact⟨y,hy,_,abl hlt,by simpa only[RV]using hry⟩
    obtain⟨l,hl,h1,h2⟩:=mZ n hrow;refine⟨.agg l.toArray,?_,?_⟩
    ·simp[Instr.loadAt,Instr.sureAddr,loadVar,iz hag,dn hsz,run_loadCells hl h1]
    ·simp only[RV,RD];refine⟨_,rfl,eg.of_get (by simp[hl,hdl]) λ j c hj=>?_⟩;have hjn:j<n:=by have:=(abE.1 hj).1;omega
     obtain⟨y,hy,c',hc',hrc⟩:=h2 j hjn;rw[hc']at hj;simp at hj;subst hj;exact⟨y,by simpa using hy,hrc⟩
  ·simp at h
 ·simp at h
end
theorem eg.append{F:Fz}{xs ys:List D}{vs us:List Value}(h:eg F xs vs)(k:eg F ys us):eg F (xs++ys) (vs++us):=by
 have hl:=eg.length h;refine eg.of_get (by simp[hl,eg.length k]) λ i x hi=>?_;rcases abn i xs.length with h' | h'
 ·rw[List.getElem?_append_left h']at hi;obtain⟨v,hv,hr⟩:=eg.get h hi;exact⟨v,by rw[List.getElem?_append_left (by omega)];exact hv,hr⟩
 ·rw[List.getElem?_append_right h']at hi;obtain⟨v,hv,hr⟩:=eg.get k hi;exact⟨v,by rw[List.getElem?_append_right (by omega),hl];exact hv,hr⟩
theorem eg.take{F:Fz}{xs:List D}{vs:List Value}(h:eg F xs vs)(n:Nat):eg F (xs.take n) (vs.take n):=by simpa using eg.sub h 0 n
theorem eg.drop{F:Fz}{xs:List D}{vs:List Value}(h:eg F xs vs)(n:Nat):eg F (xs.drop n) (vs.drop n):=by
 have:=eg.sub h n (xs.length+vs.length)
 rwa[abS (by simp;omega),abS (by simp;omega)]at this
theorem qP{F:Fz}{blk:Nat}:∀{xs ys:List D} {off:Nat},cN F blk off (xs++ys)↔cN F blk off xs/\cN F blk (off+xs.length) ys
 | [],ys,off=>by simp[cN]
 |x::xs,ys,off=>by
  simp only[List.cons_append,cN,qP,aaT,and_assoc];rw[show off+1+xs.length=off+(xs.length+1) by omega]
theorem kv{F:Fz}{blk:Nat}:∀{xs:List D} {off:Nat},bN F blk off xs↔cN F blk off (xs.flatMap D.cells)
 | [],off=>by simp[bN,cN]
 |x::xs,off=>by
  rw[ig,List.flatMap_cons,qP,nI,kv,D.cells_length]
theorem jm{sz:Nat}:∀{xs:List D},sized xs sz->(xs.flatMap D.cells).length=xs.length*sz
 | [],_=>by simp
 |x::xs,h=>by
  rw[List.flatMap_cons,aaS,jm (λ y hy=>h y (by simp[hy])),D.cells_length,h x (by simp),aaT,abw];omega
section
variable {P : Program} {w : World} {G : Sg} {t : TypeId}
theorem oa{sz sz':Nat}{xs:List D}(h:bA sz xs=true)(hs:sized xs sz'):sized xs sz:=by
 cases xs with
 |nil=>intro x hx;simp at hx
 |cons x xs=>
  simp[bA]at h;have:sz'=sz:=by rw[<-hs x (by simp),h]
  exact this▸hs
theorem cN.row{F:Fz}(hF:∀b o v,F b o=some v->w.cell? ⟨b,o,none⟩=some v){blk off:Nat}{cs:List D}(h:cN F blk off cs):
  ∃l:List Value,l.length=cs.length/\(∀(j:Nat) v,l[j]?=some v->w.cell? ⟨blk,off+j,none⟩=some v)/\eg F cs l:=by
 obtain⟨l,hl,h1,h2⟩:=mZ (w:=w) (R:=λ j v=>∃c,cs[j]?=some c/\RD F c v) (b:=blk) (o:=off) cs.length λ j hj=>by
  obtain⟨v,hv,hr⟩:=cN.get h (abl hj);exact⟨v,hF _ _ _ hv,_,abl hj,hr⟩
 refine⟨l,hl,h1,eg.of_get hl λ i x hi=>?_⟩;obtain⟨v,hv,c,hc,hr⟩:=h2 i (abE.1 hi).1;rw[hc]at hi;simp at hi;subst hi;exact⟨v,hv,hr⟩
theorem wJ{S:List Ob}(hI:Inv w G S){sz:Nat}{v:V}{va:Value}{xs:List D}(hv:RV G v va)(h:view S sz v=some xs)(hh:bA sz xs=true):
  ∃a c,va = .slice a xs.length c/\xs.length<=c/\sized xs sz/\∃l:List Value,l.length=xs.length*sz/\(Builtin.firstCells sz xs.length va).run P w = .ok l.toArray w/\eg G.F (xs.flatMap D.cells) l:=by
 unfold view at h;split at h
 ·rename_i fl ys;simp at h;obtain rfl:xs=ys:=h.symm;simp only[RV,RD]at hv;obtain⟨a,n,c,sz',rfl,rfl,hc,_,hs,hr⟩:=hv;have hs':=oa hh hs;refine⟨a,c,rfl,hc,hs',?_⟩;by_cases hne:xs=[]
  ·subst hne;refine⟨[],by simp,?_,by simp only[List.flatMap_nil,eg]⟩;cases a<;>simp[Builtin.firstCells,loadCells,loadCellsFrom]
  ·obtain⟨blk,off,rfl,hel⟩:=hr hne;obtain⟨l,hl,h1,h2⟩:=cN.row hI.fz (kv.1 hel);rw[jm hs']at hl;exact⟨l,hl,by simp[Builtin.firstCells,run_loadCells hl h1],h2⟩
 ·rename_i id off len;split at h
  ·rename_i cs fl hob;split at h
   ·rename_i hsz1;split at h
    ·rename_i hle;subst hsz1;have hmap:=De h;have hxl:xs.length=len:=by have:=congrArg List.length hmap;simp at this;omega
     simp only[RV]at hv;obtain⟨a,c,rfl,hc,hb⟩:=hv;by_cases h0:len=0
     ·have:xs=[]:=List.length_eq_zero_iff.1 (by omega)
      subst this;refine⟨a,c,by rw[h0];rfl,by simp,by intro x hx;simp at hx,[],by simp,?_,by simp only[List.flatMap_nil,eg]⟩;cases a<;>simp[Builtin.firstCells,loadCells,loadCellsFrom]
     ·obtain⟨blk,ho,rfl⟩:=hb (by omega)
      obtain⟨_,o',go,hs',hgo,hor⟩:=hI.ob _ _ ho;rw[hob]at hs';simp at hs';subst hs';cases go<;>simp only[kQ]at hor;rename_i arr el fz;obtain⟨hlen,hcells,_⟩:=hor;have hx1:∀j (x:D),xs[j]?=some x->cs[off+j]?=some (.d x):=by
       intro j x hj;have hlt:j<len:=by rw[<-hxl];exact(abE.1 hj).1
       have:((cs.drop off).take len)[j]?=some (.d x):=by rw[hmap];simp[hj]
       rwa[abP hlt,List.getElem?_drop]at this
      have hw1:sized xs 1:=by intro x hx;obtain⟨j,hj⟩:=List.mem_iff_getElem?.1 hx;obtain⟨_,_,_,_,hone⟩:=hcells _ _ (hx1 j x hj);cases x<;>simp[V.one]at hone<;>rfl
      have hflat:xs.flatMap D.cells=xs:=by
       have:∀ys:List D,sized ys 1->(∀y∈ys,y.cells=[y])->ys.flatMap D.cells=ys:=by
        intro ys _ hy
        induction ys with
        |nil=>rfl
        |cons y ys ih=>rw[List.flatMap_cons,hy y (by simp),ih (λ z hz=>by rename_i h;exact h z (by simp[hz])) (λ z hz=>hy z (by simp[hz]))];rfl
       refine this xs hw1 λ y hy=>?_;obtain⟨j,hj⟩:=List.mem_iff_getElem?.1 hy;obtain⟨_,_,_,_,hone⟩:=hcells _ _ (hx1 j y hj);cases y<;>simp[V.one]at hone<;>rfl
      obtain⟨l,hl,h1,h2⟩:=mZ (w:=w) (R:=λ j v=>∃c,xs[j]?=some c/\RD G.F c v) (b:=blk) (o:=off) len λ j hj=>by
       have hj':j<xs.length:=by omega
       obtain⟨y,hy,hry,_,_⟩:=hcells _ _ (hx1 j xs[j] (abl hj'));exact⟨y,by simp[World.cell?,hgo,hy],_,abl hj',by simpa only[RV]using hry⟩
      refine⟨_,c,by rw[hxl],by omega,hw1,l,by omega,?_,?_⟩
      ·simp[Builtin.firstCells,hxl,run_loadCells hl h1]
      ·rw[hflat];refine eg.of_get (by omega) λ j x hj=>?_;have hlt:j<len:=by rw[<-hxl];exact(abE.1 hj).1
       obtain⟨y,hy,c',hc',hrc⟩:=h2 j hlt;rw[hj]at hc';simp at hc';subst hc';exact⟨y,hy,hrc⟩
    ·simp at h
   ·simp at h
  ·split at h
   ·rename_i h0;simp at h;subst h;subst h0;simp only[RV]at hv;obtain⟨a,c,rfl,hc,hb⟩:=hv;refine⟨a,c,rfl,by simp,by intro x hx;simp at hx,[],by simp,?_,by simp only[List.flatMap_nil,eg]⟩;cases a<;>simp[Builtin.firstCells,loadCells,loadCellsFrom]
   ·simp at h
 ·simp at h
theorem XA{d:TypeDesc}{a v:V}{va:Value}{ty:TypeId}(hu:P.underlying t=some d)(ha:RV G a va)(h:Qx d a=some v):Yl P w G (Builtin.len_ #[t] ty #[va]) v:=by
 unfold Qx at h;split at h
 ·rename_i x;simp at h;subst h;simp only[RV,RD]at ha;subst ha;have hsz:(⟨x.toArray⟩:ByteArray).size=x.length:=rfl;simp[Yl,Builtin.len_,run_underlying hu,goInt,RV,RD,hsz]
 ·simp at h;subst h;simp only[RV,RD]at ha;obtain⟨A,n,c,sz,rfl,rfl,_⟩:=ha;simp[Yl,Builtin.len_,run_underlying hu,goInt,RV,RD]
 ·simp at h;subst h;simp only[RV]at ha;obtain⟨A,c,rfl,_⟩:=ha;simp[Yl,Builtin.len_,run_underlying hu,goInt,RV,RD]
 ·simp at h
theorem XJ{a v:V}{va:Value}(ha:RV G a va)(h:QA a=some v):(∃A,va = .pointer (some A))/\RV G v va:=by
 unfold QA at h;split at h<;>simp at h<;>subst h
 ·refine⟨?_,ha⟩;simp only[RV]at ha;obtain⟨blk,_,rfl⟩:=ha;exact⟨_,rfl⟩
 ·refine⟨?_,ha⟩;simp only[RV]at ha;obtain⟨blk,_,_,rfl,_⟩:=ha;exact⟨_,rfl⟩
theorem Hk{a v:V}{va:Value}{i:Nat}(ha:RV G a va)(h:uF a i=some v):Yl P w G (Instr.extract va i) v:=by
 unfold uF at h;split at h
 ·simp only[RV]at ha;obtain⟨vs,rfl,hr⟩:=ha;obtain⟨y,hy,hry⟩:=eY.get hr h;exact⟨y,by simp[Instr.extract];rw[show vs[i]?=some y by simpa using hy];rfl,hry⟩
 ·simp at h
def rh(G:Sg):Option V->Option Value->Prop
 |none,none=>True
 |some v,some x=>RV G v x
 |_,_=>False
theorem DC{v:V}{x:Value}{y n m:Nat}{code:BoundsCode}(hv:RV G v x)(h:pS (some v) m y=some n):(Instr.sliceBound x y code).run P w = .ok n w/\n<=y:=by
 unfold pS at h;split at h
 ·rename_i e;simp at e
 rotate_left
 ·simp at h
 rename_i e;simp at h;obtain⟨⟨h0,h1⟩,rfl⟩:=h;injection e with e
 subst e;simp only[RV,RD]at hv;subst hv;refine⟨?_,by omega⟩;simp[Instr.sliceBound,asIntOf,h0,h1]
theorem lR{isS:Bool}{len cap:Nat}{lo hi:Option V}{lo' hi':Option Value}{l h:Nat}(hlo:rh G lo lo')(hhi:rh G hi hi')(hlc:len<=cap)
  (h2:pS hi len len=some h) (h1:pS lo 0 h=some l):(Instr.sliceBounds isS len cap lo' hi' none).run P w = .ok (l,h,cap) w/\l<=h/\h<=len:=by
 have b2:(match hi' with|some v=>Instr.sliceBound v cap (if isS then .sliceAcap else .sliceAlen)|none=>pure len:Sem Nat).run P w = .ok h w/\h<=len:=by
  cases hi with
  |none=>
   cases hi' with
   |none=>simp[pS]at h2;subst h2;exact⟨rfl,aa4 _⟩
   |some x=>exact hhi.elim
  |some v=>
   cases hi' with
   |none=>exact hhi.elim
   |some x=>
    have hle:pS (some v) len cap=some h/\h<=len:=by
     unfold pS at h2;split at h2
     ·rename_i e;simp at e
     rotate_left
     ·simp at h2
     rename_i e;injection e with e;subst e
     simp at h2;obtain⟨⟨p,q⟩,rfl⟩:=h2;refine⟨by simp[pS];omega,by omega⟩
    exact⟨(DC hhi hle.1).1,hle.2⟩
 have b1:(match lo' with|some v=>Instr.sliceBound v h .sliceB|none=>pure 0:Sem Nat).run P w = .ok l w/\l<=h:=by
  cases lo with
  |none=>
   cases lo' with
   |none=>simp[pS]at h1;subst h1;exact⟨rfl,Nat.zero_le _⟩
   |some x=>exact hlo.elim
  |some v=>
   cases lo' with
   |none=>exact hlo.elim
   |some x=>exact DC hlo h1
 obtain⟨e2,hle2⟩:=b2;obtain⟨e1,hle1⟩:=b1;refine⟨?_,hle1,hle2⟩
 cases hi' with
 |none=>
  simp only at e2
  cases lo' with
  |none=>simp at e1 e2;subst e1;subst e2;simp[Instr.sliceBounds]
  |some x=>simp at e1 e2;subst e2;simp[Instr.sliceBounds,e1]
 |some y=>
  cases lo' with
  |none=>simp at e1 e2;subst e1;simp[Instr.sliceBounds,e2]
  |some x=>simp at e1 e2;simp[Instr.sliceBounds,e1,e2]
theorem IB{a v:V}{va:Value}{lo hi:Option V}{lo' hi':Option Value}{sz:Nat}(hu:P.underlying t=some .string)(ha:RV G a va)(hs:∃x,a = .d (.s x))(hlo:rh G lo lo')(hhi:rh G hi hi')(h:ja sz a lo hi=some v):
  Yl P w G (Instr.sliceAt t va lo' hi' none) v:=by
 obtain⟨x,rfl⟩:=hs;simp only[RV,RD]at ha;subst ha;simp only[ja]at h;split at h
 ·rename_i hh e2;split at h
  ·rename_i l e1;simp at h;subst h;obtain⟨hb,hl,hh'⟩:=lR (P:=P) (w:=w) (isS:=false) (cap:=x.length) hlo hhi (aa4 _) e2 e1;have hsz:(⟨x.toArray⟩:ByteArray).size=x.length:=rfl;refine⟨.string ((⟨x.toArray⟩:ByteArray).extract l hh),?_,?_⟩
   ·simp[Instr.sliceAt,Instr.slice,run_underlying hu,hsz,hb]
   ·simp only[RV,RD];congr 1;apply ByteArray.ext;apply Array.toList_inj.1;simp[ByteArray.data_extract,List.extract_eq_take_drop]
  ·simp at h
 ·simp at h
theorem IA{e:TypeId}{a v:V}{va:Value}{lo hi:Option V}{lo' hi':Option Value}{sz:Nat}(hu:P.underlying t=some (.slice e))(hsz:cq P e=some sz)(ha:RV G a va)(hs:∀x,a ≠ .d (.s x))(hlo:rh G lo lo')(hhi:rh G hi hi')(h:ja sz a lo hi=some v):
  Yl P w G (Instr.sliceAt t va lo' hi' none) v:=by
 unfold ja at h;split at h
 ·exact absurd rfl (hs _)
 ·rename_i fl xs;split at h
  ·rename_i hh e2;split at h
   ·rename_i l e1;split at h
    ·rename_i hw;simp at h;subst h;simp only[RV,RD]at ha;obtain⟨A,n,c,sz',rfl,rfl,hc,_,hs',hr⟩:=ha;obtain⟨hb,hl,hh'⟩:=lR (P:=P) (w:=w) (isS:=true) (cap:=c) hlo hhi hc e2 e1;refine⟨.slice (if c=l then A else A.map (·.add (l*sz))) (hh-l) (c-l),?_,?_⟩
     ·simp[Instr.sliceAt,Instr.slice,run_underlying hu,hb,dn hsz]
     ·simp only[RV,RD];refine⟨_,_,_,sz',rfl,by simp;omega,by omega,by simp,(hs'.drop l).take _,λ hne=>?_⟩;have hxne:xs≠[]:=by intro e;subst e;simp at hne
      obtain⟨blk,off,rfl,hel⟩:=hr hxne;have hszz:sz'=sz:=by
       cases xs with
       |nil=>exact absurd rfl hxne
       |cons x xs=>simp[bA]at hw;rw[<-hs' x (by simp),hw]
      subst hszz;have hlt:l<xs.length:=by
       rcases abn l xs.length with h' | h'
       ·exact h'
       ·rw[abJ h']at hne;simp at hne
      refine⟨blk,off+l*sz',?_,bN.take _ (hs'.drop l) (bN.drop l (by omega) hs' hel)⟩;rw[aaN (by omega)];simp[Addr.add_plain]
    ·simp at h
   ·simp at h
  ·simp at h
 ·rename_i id off len;split at h
  ·rename_i hh e2;split at h
   ·rename_i l e1;split at h
    ·rename_i hsz1;subst hsz1;simp at h;subst h;simp only[RV]at ha;obtain⟨A,c,rfl,hc,hb⟩:=ha;obtain⟨hbd,hl,hh'⟩:=lR (P:=P) (w:=w) (isS:=true) (cap:=c) hlo hhi hc e2 e1;refine⟨.slice (if c=l then A else A.map (·.add (l*1))) (hh-l) (c-l),?_,?_⟩
     ·simp[Instr.sliceAt,Instr.slice,run_underlying hu,hbd,dn hsz]
     ·simp only[RV];refine⟨_,_,rfl,by omega,λ hp=>?_⟩;obtain⟨blk,ho,rfl⟩:=hb (by omega);refine⟨blk,ho,?_⟩;rw[aaN (by omega)];simp[Addr.add_plain]
    ·simp at h
   ·simp at h
  ·simp at h
 ·simp at h
end
def ma(vs:List Value)(off:Nat)(l:List Value):List Value:=vs.take off++l++vs.drop (off+l.length)
theorem EW{vs:List Value}{off:Nat}{l:List Value}(h:off+l.length<=vs.length):(ma vs off l).length=vs.length:=by simp[ma];omega
theorem Ki(A:Array Value)(o:Nat)(v:Value)(l:List Value)(h:o+l.length+1<=A.size):
  ma (A.setIfInBounds o v).toList (o+1) l=ma A.toList o (v::l):=by
 unfold ma;rw[Array.toList_setIfInBounds];have h1:o<A.toList.length:=by simp;omega
 rw[List.take_set,List.drop_set_of_lt (by omega),List.take_succ_eq_append_getElem h1,List.set_append_right _ _ (by simp;omega)];have h2:min o A.size=o:=Nat.min_eq_left (by omega);simp[List.length_take,h2];congr 1;omega
theorem xC:∀(l:List Value) (j off:Nat) (A:Array Value),off+j+l.length<=A.size->
  ((l.zipIdx j).foldl (λ cs (x:Value×Nat)=>cs.setIfInBounds (off+x.2) x.1) A).toList=ma A.toList (off+j) l
 | [],j,off,A,h=>by simp[ma]
 |v::l,j,off,A,h=>by
  simp only[aaT]at h;rw[List.zipIdx_cons,List.foldl_cons,xC l (j+1) off _ (by simp;omega)];rw[<-aby,Ki _ _ _ _ (by omega)]
theorem eg.lay{F:Fz}{cs xs:List D}{vs l:List Value}{off:Nat}(h:eg F cs vs)(k:eg F xs l):eg F (lay cs off xs) (ma vs off l):=by unfold Go.Dn.lay ma;rw[eg.length k];exact(eg.append (eg.append (h.take off) k) (h.drop _))
theorem D.cells_RDs{F:Fz}{x:D}{v:Value}(h:RD F x v):eg F x.cells v.cells.toList/\v.cells.size=x.width:=by
 cases x with
 |g cs=>simp only[RD]at h;obtain⟨vs,rfl,hr⟩:=h;exact⟨hr,by simp[Value.cells,D.width];rw[<-Array.length_toList];exact eg.length hr⟩
 |np=>have h':=h;simp only[RD]at h';subst h';refine⟨?_,rfl⟩;simp only[D.cells,eg,Value.cells];exact⟨_,_,rfl,h,rfl⟩
 |b y=>have h':=h;simp only[RD]at h';subst h';refine⟨?_,rfl⟩;simp only[D.cells,eg,Value.cells];exact⟨_,_,rfl,h,rfl⟩
 |i k y=>have h':=h;simp only[RD]at h';subst h';refine⟨?_,rfl⟩;simp only[D.cells,eg,Value.cells];exact⟨_,_,rfl,h,rfl⟩
 |s y=>have h':=h;simp only[RD]at h';subst h';refine⟨?_,rfl⟩;simp only[D.cells,eg,Value.cells];exact⟨_,_,rfl,h,rfl⟩
 |l fl y=>have h':=h;simp only[RD]at h';obtain⟨a,n,c,sz,rfl,_⟩:=h';refine⟨?_,rfl⟩;simp only[D.cells,eg,Value.cells];exact⟨_,_,rfl,h,rfl⟩
section
variable {P : Program} {w : World} {G : Sg} {t : TypeId}
theorem AH{place:Nat->Option (Nat×Nat)}{A:Array Value}{i off size:Nat}{v:Value}{rest:List (Nat×Value)}(hp:place i=some (off,size))(hv:v.cells.size=size)(hle:off+size<=A.size):
  ∃B:Array Value,B.toList=ma A.toList off v.cells.toList/\B.size=A.size/\Instr.fill place A ((i,v)::rest)=Instr.fill place B rest:=by
 refine⟨v.cells.zipIdx.foldl (λ cs (x:Value×Nat)=>cs.setIfInBounds (off+x.2) x.1) A,?_,?_,?_⟩
 ·rw[<-Array.foldl_toList,Array.toList_zipIdx];have:=xC v.cells.toList 0 off A (by simp[hv];omega);simpa using this
 ·have h:=xC v.cells.toList 0 off A (by simp[hv];omega)
  rw[<-Array.length_toList,<-Array.foldl_toList,Array.toList_zipIdx,h,EW (by simp[hv];omega)];simp
 ·simp only[Instr.fill,hp];rw[aaN (by rw[hv];simp;omega)]
theorem vZ{fs:Array Field}(h:∀f∈fs.toList,(cq P f.type).isSome=true):
  (fs.mapM λ f=>do pure (f.offset,<-sizeOf f.type):Sem (Array (Nat×Nat))).run P w = .ok (fs.map λ f=>(f.offset,(cq P f.type).getD 0)) w:=by
 rw[Array.mapM_eq_mapM_toList];have key:∀l:List Field,(∀f∈l,(cq P f.type).isSome=true)->(l.mapM λ f=>do pure (f.offset,<-sizeOf f.type):Sem (List (Nat×Nat))).run P w = .ok (l.map λ f=>(f.offset,(cq P f.type).getD 0)) w:=by
  intro l
  induction l with
  |nil=>intro _;simp
  |cons f l ih=>
   intro hl;obtain⟨n,hn⟩:=Option.isSome_iff_exists.1 (hl f (by simp));rw[List.mapM_cons];simp only[Sem.run_bind,dn hn,Result.andThen_ok,Sem.run_pure,ih λ g hg=>hl g (by simp[hg])];simp[hn]
 simp only[Sem.run_map,key _ h,Result.andThen_ok];congr 1;exact Array.toList_inj.1 (by simp)
theorem wT{G:Sg}{fs:Array Field}:∀(parts:List (Nat×Operand)) (ρ:Operand->Value) (vals:List V) (cs:List D) (A:Array Value) (r:List D),
  (∀x v,ev vals x=some v->RV G v (ρ x))->eg G.F cs A.toList->oo cs (parts.map (partOf P fs vals))=some r->
  ∃B:Array Value,Instr.fill ((fs.map λ f=>(f.offset,(cq P f.type).getD 0))[·]?) A (parts.map λ (i,x)=>(i,ρ x))=some B/\eg G.F r B.toList
 | [],ρ,vals,cs,A,r,_,hA,h=>by
  simp[oo]at h;subst h;exact⟨A,rfl,hA⟩
 |(i,x)::parts,ρ,vals,cs,A,r,hρ,hA,h=>by
  cases hf:fs[i]? with
  |none=>simp[List.map_cons,oo,partOf,hf]at h
  |some f=>
   simp only[List.map_cons,oo,partOf,hf]at h;split at h
   ·rename_i d hd;split at h
    ·rename_i hc;have hr:=hρ x _ hd;simp only[RV]at hr;obtain⟨hcells,hsz⟩:=D.cells_RDs hr;have hl:=eg.length hA;obtain⟨B,hB,hBs,hfill⟩:=AH (place:=((fs.map λ f=>(f.offset,(cq P f.type).getD 0))[·]?)) (A:=A) (i:=i) (off:=f.offset) (size:=(cq P f.type).getD 0) (v:=ρ x)
      (rest:=parts.map λ (i,x)=>(i,ρ x)) (by simp[hf]) (by rw[hsz];exact hc.1) (by rw[<-Array.length_toList,hl];exact hc.2)
     obtain⟨C,hC,hr'⟩:=wT parts ρ vals _ B r hρ (by rw[hB];exact eg.lay hA hcells) h;exact⟨C,by rw[List.map_cons];rw[hfill];exact hC,hr'⟩
    ·simp at h
   ·simp at h
theorem yL{t:TypeId}{z:List V}(h:ie P t=some z):∃v,(zeroValue t).run P w = .ok v w/\eY G z v.cells.toList/\uG v.cells.toList=some z:=by
 unfold ie at h;split at h
 ·rename_i v hv
  cases hi:P.info? t with
  |none=>simp[hi]at hv
  |some i=>
   simp[hi]at hv;exact⟨v,by simp[zeroValue,run_typeInfo w hi,hv],uH h,h⟩
 ·simp at h
theorem BW{xs:List D}{vs:List Value}:eY G (xs.map .d) vs↔eg G.F xs vs:=by
 induction xs generalizing vs with
 |nil=>simp only[List.map_nil,eY,eg]
 |cons x xs ih=>simp only[List.map_cons,eY,eg,RV,ih]
theorem L5:∀{vs:List V} {ds:List D} {l:List Value},Ot vs=some ds->eY G vs l->eg G.F ds l
 | [],ds,l,h,hr=>by simp[Ot]at h;subst h;simpa only[eY,eg]using hr
 |v::vs,ds,l,h,hr=>by
  simp only[eY]at hr;obtain⟨x,r,rfl,h1,h2⟩:=hr;unfold Ot at h;split at h
  ·rename_i d ds' hd hds;injection h with h;subst h
   have h3:=L5 hds h2;simp only[eg];refine⟨x,r,rfl,?_,h3⟩;split at hd
   ·injection hd with hd;subst hd
    simp only[RV]at h1;subst h1;simp only[RD]
   ·have:=S7 hd;subst this;simpa only[RV]using h1
  ·cases h
theorem OY{fs:Array Field}{z:List V}{zd cs:List D}{parts:Array (Nat×Operand)}{vals:List V}{a:Act}(hf:Fr G vals a)(hu:P.underlying t=some (.struct fs))(hz:ie P t=some z)
  (hall:fs.toList.all (λ f=>(cq P f.type).isSome)=true) (hzd:Ot z=some zd)
  (h:oo zd (parts.toList.map (partOf P fs vals))=some cs):
  Yl P w G (Instr.build t (parts.map λ (i,x)=>(i,a.eval x))) (.d (.g cs)):=by
 obtain⟨v,hv,hr,_⟩:=yL (P:=P) (w:=w) (G:=G) hz;replace hr:=L5 hzd hr;obtain⟨B,hB,hrB⟩:=wT parts.toList a.eval vals zd v.cells cs (λ x y hy=>eh hf hy) hr h;refine⟨.agg B,?_,by simp only[RV,RD];exact⟨B,rfl,hrB⟩⟩;have hp:=vZ (P:=P) (w:=w) (fs:=fs) (λ f hf=>abu.1 hall f hf);simp only[Instr.build,Sem.run_bind,hv,Result.andThen_ok,run_underlying hu,hp];rw[Array.toList_map];simp only[hB,Sem.run_pure]
theorem oh{vals:List V}{a:Act}(hf:Fr G vals a):∀{xs:List Operand} {vs:List V},xs.mapM (ev vals)=some vs->eY G vs (xs.map a.eval)
 | [],vs,h=>by simp at h;subst h;simp only[eY,List.map_nil]
 |x::xs,vs,h=>by
  rw[List.mapM_cons]at h;simp only[bind,abd,pure,Option.some.injEq]at h;obtain⟨v,hv,r,hr,rfl⟩:=h;simp only[eY,List.map_cons];exact⟨_,_,rfl,eh hf hv,oh hf hr⟩
theorem XH{vs:List V}{v:V}{xs:Array Value}{ts:Array TypeId}{ty:TypeId}(hr:eY G vs xs.toList)(h:Qz vs=some v):Yl P w G (Builtin.min_ ts ty xs) v:=by
 unfold Qz at h;split at h
 ·rename_i k a j b;split at h
  ·rename_i e;subst e;simp at h;subst h;simp only[eY,RV,RD]at hr;obtain⟨_,_,hx,rfl,_,_,rfl,rfl,rfl⟩:=hr;simp[Yl,Builtin.min_,hx,Builtin.min2,RV,RD]
  ·simp at h
 ·simp at h
theorem XE{vs:List V}{v:V}{xs:Array Value}{ts:Array TypeId}{ty:TypeId}(hr:eY G vs xs.toList)(h:Qy vs=some v):Yl P w G (Builtin.max_ ts ty xs) v:=by
 unfold Qy at h;split at h
 ·rename_i k a j b;split at h
  ·rename_i e;subst e;simp at h;subst h;simp only[eY,RV,RD]at hr;obtain⟨_,_,hx,rfl,_,_,rfl,rfl,rfl⟩:=hr;simp[Yl,Builtin.max_,hx,Builtin.max2,RV,RD]
  ·simp at h
 ·simp at h
end
section
variable {P : Program} {w : World} {G : Sg} {t : TypeId}
def tf(c:Value)(s:ByteArray):Sem (ForInStep ByteArray):=
 match c with
 | .int .u8 n=>pure (ForInStep.yield (s.push (UInt8.ofNat n.toNat)))
 |_=>do
  stuck "bytesToString: byte expected"
  pure (ForInStep.yield s)
theorem yU{F:Fz}:∀{xs:List D} {b:List UInt8} {l:List Value},my xs=some b->eg F (xs.flatMap D.cells) l->∀(s:ByteArray),
  (forIn l s tf:Sem ByteArray).run P w = .ok ⟨s.data++b.toArray⟩ w
 | [],b,l,h,hr,s=>by
  simp[my]at h;subst h;simp only[List.flatMap_nil,eg]at hr;subst hr;simp
 |x::xs,b,l,h,hr,s=>by
  unfold my at h;split at h
  ·rename_i e;simp at e
  ·rename_i n xs' e;simp at e;obtain⟨rfl,rfl⟩:=e;simp at h;obtain⟨b',hb',rfl⟩:=h;simp only[List.flatMap_cons,D.cells,List.singleton_append,eg,RD]at hr;obtain⟨_,l',rfl,rfl,hr'⟩:=hr;simp only[List.forIn_cons,tf,Sem.run_bind,Sem.run_pure,Result.andThen_ok];rw[yU hb' hr'];congr 1;apply ByteArray.ext;apply Array.toList_inj.1;simp[ByteArray.data_push]
  ·simp at h
theorem ud{S:List Ob}(hI:Inv w G S){v:V}{va:Value}{xs:List D}{b:List UInt8}(hv:RV G v va)(hview:view S 1 v=some xs)(hh:bA 1 xs=true)(hb:my xs=some b):
  Yl P w G (Conv.bytesToString va) (.d (.s b)):=by
 obtain⟨a,c,rfl,_,_,l,hl,hrun,hr⟩:=wJ (P:=P) hI hv hview hh;refine⟨.string ⟨b.toArray⟩,?_,by simp only[RV,RD]⟩;have key:=yU (P:=P) (w:=w) hb hr ByteArray.empty
 cases a with
 |none=>
  simp only[Builtin.firstCells,Sem.run_pure]at hrun;have hl0:l=[]:=by
   injection hrun with h1
   have:=congrArg Array.toList h1;simpa using this.symm
  subst hl0;simp only[List.forIn_nil,Sem.run_pure]at key;injection key with h1
  have h2:b.toArray=#[]:=by have:=congrArg ByteArray.data h1;simpa using this.symm
  simp only[Conv.bytesToString,Sem.run_pure,h2];rfl
 |some A=>
  simp only[Builtin.firstCells,Nat.mul_one]at hrun;simp only[Conv.bytesToString,Sem.run_bind,hrun,Result.andThen_ok];have hk:(forIn l.toArray ByteArray.empty tf:Sem ByteArray).run P w = .ok ⟨b.toArray⟩ w:=by rw[List.forIn_toArray,key];simp
  change ((Sem.run P (forIn l.toArray ByteArray.empty tf) w).andThen λ a w'=>Sem.run P (pure (Value.string a)) w')=_;rw[hk];rfl
structure Grow (w:World) (G:Sg) (w':World) (G':Sg):Prop where
 os:w'.os=w.os
 tape:w'.tape=w.tape
 output:w'.output=w.output
 size:w.heap.size<=w'.heap.size
 heap:∀b,b<w.heap.size->w'.heap[b]?=w.heap[b]?
 own:G'.own=G.own
 F:Tu G.F G'.F
 old:∀b o,b<w.heap.size->G'.F b o=G.F b o
theorem Grow.refl(w:World)(G:Sg):Grow w G w G:=⟨rfl,rfl,rfl,aa4 _,λ _ _=>rfl,rfl,λ _ _ _ h=>h,λ _ _ _=>rfl⟩
theorem Grow.le{w':World}{G':Sg}(h:Grow w G w' G'):Le G G':=⟨h.F,λ b id e=>by rw[h.own];exact e⟩
theorem BY.same{w':World}{F F':Fz}{sz blk:Nat}{ot:Option Nat}{th:Bool}{v:Value}(h:BY w F sz ot th blk v)(hh:w'.heap[blk]?=w.heap[blk]?)(hF:∀o,F' blk o=F blk o):BY w' F' sz ot th blk v:=by obtain⟨off,n,c,cs,el,fz,e,hc,h1,h2,h0,h4,h3⟩:=h;exact⟨off,n,c,cs,el,fz,e,by rw[hh];exact hc,h1,h2,h0,h4,λ o ho=>by rw[hF];exact h3 o ho⟩
theorem BY.weak{w:World}{F:Fz}{sz blk:Nat}{ot:Option Nat}{th:Bool}{v:Value}(h:BY w F sz ot th blk v):BY w F sz ot false blk v:=by obtain⟨off,n,c,cs,el,fz,e,hc,h1,h2,h0,h4,h3⟩:=h;exact⟨off,n,c,cs,el,fz,e,hc,h1,h2,h0,⟨h4.1,λ h=>by cases h⟩,h3⟩
theorem gq.same{w':World}{G':Sg}{ℓ:Loc}{sz:Nat}{v:Value}(h:gq w G ℓ sz v)(hk:∀blk,G.own blk=some ℓ->G'.own blk=some ℓ/\w'.heap[blk]?=w.heap[blk]?/\∀o,G'.F blk o=G.F blk o):gq w' G' ℓ sz v:=by
 rcases h with h|⟨blk,ho,ht⟩
 ·exact .inl h
 ·obtain⟨h1,h2,h3⟩:=hk blk ho;exact .inr ⟨blk,h1,ht.same h2 h3⟩
theorem kQ.same{w':World}{G':Sg}{id:Nat}{o:Ob}{go:Obj}(h:kQ w G id o go)(hle:Le G G')(hk:∀off blk,G.own blk=some (.cell id off)->G'.own blk=some (.cell id off)/\w'.heap[blk]?=w.heap[blk]?/\∀o,G'.F blk o=G.F blk o):kQ w' G' id o go:=by
 cases o with
 |cells cs fl=>
  cases go<;>simp only[kQ]at h⊢;obtain⟨h1,h2,h3⟩:=h;refine⟨h1,λ o c hc=>?_,λ o sz hm=>?_⟩
  ·obtain⟨v,hv,hr,hf,ho⟩:=h2 o c hc;exact⟨v,hv,RV.mono hle c v hr,hf,ho⟩
  ·exact(h3 o sz hm).map λ v hv ht=>⟨v,hv,ht.same (hk o)⟩
 |dead=>cases go<;>simp only[kQ]at h
theorem cell?_of_heap{w':World}{b:Nat}(h:w'.heap[b]?=w.heap[b]?)(o:Nat):w'.cell? ⟨b,o,none⟩=w.cell? ⟨b,o,none⟩:=by simp[World.cell?,h]
theorem cell?_lt{b o:Nat}{v:Value}(h:w.cell? ⟨b,o,none⟩=some v):b<w.heap.size:=by
 rcases abn b w.heap.size with hb|hb
 ·exact hb
 ·simp[World.cell?,Array.getElem?_eq_none hb]at h
theorem Inv.F_lt{S:List Ob}(hI:Inv w G S){b o:Nat}{v:Value}(h:G.F b o=some v):b<w.heap.size:=cell?_lt (hI.fz _ _ _ h)
theorem Inv.grow{S:List Ob}{w':World}{G':Sg}(hI:Inv w G S)(h:Grow w G w' G')(hnew:∀b o v,w.heap.size<=b->G'.F b o=some v->w'.cell? ⟨b,o,none⟩=some v):Inv w' G' S:={
 fz b o v hv:=by
  rcases abn b w.heap.size with hb|hb
  ·rw[h.old b o hb]at hv;rw[cell?_of_heap (h.heap b hb)];exact hI.fz b o v hv
  ·exact hnew b o v hb hv
 ob b id ho:=by rw[h.own]at ho;obtain⟨h1,o,go,h2,h3,h4⟩:=hI.ob b id ho;have hb:=hI.tk _ _ ho;refine⟨λ o=>by rw[h.old b o hb];exact h1 o,o,go,h2,by rw[h.heap b hb];exact h3,h4.same h.le λ off blk hk=>?_⟩;have hb':=hI.tk _ _ hk;exact⟨by rw[h.own];exact hk,h.heap _ hb',λ o=>h.old _ _ hb'⟩
 inj b b' id h1 h2:=by rw[h.own]at h1 h2;exact hI.inj b b' id h1 h2
 tk b ℓ ho:=by rw[h.own]at ho;exact abL (hI.tk b ℓ ho) h.size
 cl b id o ho:=by rw[h.own]at ho;exact hI.cl b id o ho
 rf:=hI.rf
 tb:=hI.tb_of λ b hb ho=>⟨h.heap b hb,by rw[h.own];exact ho⟩ }
end
theorem MZ(A l1 l2:List Value)(o:Nat)(h:o+l1.length+l2.length<=A.length):ma (ma A o l1) (o+l1.length) l2=ma A o (l1++l2):=by
 unfold ma;have h1:(A.take o++l1).length=o+l1.length:=by simp;omega
 rw[List.take_append_of_le_length (by omega),abS (by omega),List.drop_append,abJ (by omega),h1];simp only[List.nil_append,List.drop_drop,aaS,abg];congr 4;omega
theorem M0(A l:List Value)(h:l.length=A.length):ma A 0 l=l:=by unfold ma;simp[h]
section
variable {P : Program} {w : World} {G : Sg} {t : TypeId}
theorem xi{vals:List V}{sz:Nat}{ρ:Operand->Value}(hρ:∀x v,ev vals x=some v->RV G v (ρ x)):∀(parts:List (Nat×Operand)) (i:Nat) (A:Array Value) (xs:List D),
  (i+parts.length)*sz<=A.size->jN sz i (parts.map λ p=>(p.1,ev vals p.2))=some xs->
  ∃(B:Array Value) (l:List Value),Instr.fill (λ i=>some (i*sz,sz)) A (parts.map λ (i,x)=>(i,ρ x))=some B/\B.toList=ma A.toList (i*sz) l/\B.size=A.size/\l.length=parts.length*sz/\eg G.F (xs.flatMap D.cells) l/\sized xs sz/\xs.length=parts.length
 | [],i,A,xs,_,h=>by
  simp[jN]at h;subst h;exact⟨A,[],rfl,by simp[ma],rfl,by simp,by simp only[List.flatMap_nil,eg],by intro x hx;simp at hx,rfl⟩
 |(j,x)::parts,i,A,xs,hA,h=>by
  simp only[List.map_cons,jN]at h;split at h
  ·rename_i hij;split at h
   ·rename_i d ys hd hys;split at h
    ·rename_i hw;simp at h;subst h;have hr:=hρ x _ hd;simp only[RV]at hr;obtain⟨hcells,hsz⟩:=D.cells_RDs hr;simp only[aaT]at hA;have hmul:(i+(parts.length+1))*sz=i*sz+sz+parts.length*sz:=by rw[abw,abw,Nat.one_mul];omega
     have hmul2:(i+1+parts.length)*sz=i*sz+sz+parts.length*sz:=by rw[abw,abw,Nat.one_mul]
     obtain⟨B,hB,hBs,hfill⟩:=AH (place:=λ i=>some (i*sz,sz)) (A:=A) (i:=j) (off:=i*sz) (size:=sz) (v:=ρ x)
      (rest:=parts.map λ (i,x)=>(i,ρ x)) (by rw[hij]) (by rw[hsz,hw]) (by omega)
     obtain⟨C,l,h1,h2,h3,h4,h5,h6,h7⟩:=xi hρ parts (i+1) B ys (by omega) hys;have hcl:(ρ x).cells.toList.length=sz:=by rw[Array.length_toList,hsz,hw]
     refine⟨C,(ρ x).cells.toList++l,by rw[List.map_cons,hfill];exact h1,?_,by omega,by rw[aaS,hcl,h4,aaT,abw,Nat.one_mul];omega,?_,?_,by simp[h7]⟩
     ·have hAl:A.toList.length=A.size:=by simp
      rw[h2,hB,<-MZ _ _ _ _ (by rw[hcl,h4,hAl];omega),hcl,abw,Nat.one_mul]
     ·rw[List.flatMap_cons];exact eg.append hcells h5
     ·intro y hy;rcases List.mem_cons.1 hy with rfl|hy
      ·exact hw
      ·exact h6 y hy
    ·simp at h
   ·simp at h
  ·simp at h
def C0(w:World)(arr:Array Value)(el:TypeId):World:={ w with heap:=w.heap.push (.cells arr el (0,0)) }
def FR(w:World)(G:Sg)(arr:Array Value)(n:Nat):Sg:={ G with F:=λ b o=>if b=w.heap.size then(if o<n then arr[o]? else none)else G.F b o }
theorem yo{S:List Ob}(hI:Inv w G S)(arr:Array Value)(el:TypeId)(n:Nat):Grow w G (C0 w arr el) (FR w G arr n):={
 os:=rfl
 tape:=rfl
 output:=rfl
 size:=by simp[C0]
 heap b hb:=by simp only[C0];rw[Array.getElem?_push,aaN (by omega)]
 own:=rfl
 F b o v h:=by
  simp only[FR];rw[aaN]
  ·exact h
  ·have:=hI.F_lt h;omega
 old b o hb:=by simp only[FR];rw[aaN (by omega)] }
theorem Q2{arr:Array Value}{el:TypeId}{o:Nat}:(C0 w arr el).cell? ⟨w.heap.size,o,none⟩=arr[o]?:=by unfold World.cell? C0;simp only[Array.getElem?_push_size];rfl
theorem UW{S:List Ob}(hI:Inv w G S)(arr:Array Value)(el:TypeId)(n:Nat):Inv (C0 w arr el) (FR w G arr n) S:=by
 refine hI.grow (yo hI arr el n) λ b o v hb h=>?_;simp only[FR]at h;split at h
 ·rename_i e;subst e;split at h
  ·rw[Q2];exact h
  ·simp at h
 ·have:=hI.F_lt h;omega
theorem Iv{S:List Ob}(hI:Inv w G S){arr:Array Value}{n:Nat}{ds:List D}{l:List Value}(hr:eg G.F ds l)(hl:∀(i:Nat) v,l[i]?=some v->arr[i]?=some v)(hn:ds.length<=n):
  cN (FR w G arr n).F w.heap.size 0 ds:=by
 refine cN.of_get λ i c hi=>?_;obtain⟨v,hv,hrv⟩:=eg.get hr hi;have hlt:=(abE.1 hi).1;refine⟨v,?_,RD.mono (yo hI arr 0 n).F c v hrv⟩;simp only[FR,if_true,abv];rw[aaR (by omega)];exact hl _ _ hv
theorem yw(el:TypeId)(arr:Array Value):(newRow el arr).run P w = .ok ⟨w.heap.size,0,none⟩ (C0 w arr el):=rfl
theorem o8{e:TypeId}{sz len:Nat}{parts:Array (Nat×Operand)}{vals:List V}{a:Act}{xs:List D}(hf:Fr G vals a)(hu:P.underlying t=some (.slice e))(hsz:cq P e=some sz)
  (hz:(ie P e).isSome=true) (hlen:parts.size=len) (hle:len*sz<=16777216) (h:jN sz 0 (parts.toList.map λ p=>(p.1,ev vals p.2))=some xs):
  ∃B:Array Value,(Instr.buildSlice t len (parts.map λ (i,x)=>(i,a.eval x))).run P w = .ok (.slice (some ⟨w.heap.size,0,none⟩) len len) (C0 w B e)/\eg G.F (xs.flatMap D.cells) B.toList/\sized xs sz/\xs.length=len/\B.size=len*sz:=by
 obtain⟨z,hz⟩:=Option.isSome_iff_exists.1 hz;obtain⟨zv,hzv,_,_⟩:=yL (P:=P) (w:=w) (G:=G) hz;obtain⟨Z,hZ0,hZ1⟩:∃Z:Array Value,(len*sz=0->Z=#[])/\(len*sz≠0->Z=zv.cells):=by
  by_cases h0:len*sz=0
  ·exact⟨#[],λ _=>rfl,λ h=>absurd h0 h⟩
  ·exact⟨zv.cells,λ h=>absurd h h0,λ _=>rfl⟩
 obtain⟨B,l,h1,h2,h3,h4,h5,h6,h7⟩:=xi (G:=G) (ρ:=a.eval) (λ x v hv=>eh hf hv) parts.toList 0 ((Array.range (len*sz)).map (Z[· % Z.size]!)) xs (by simp[hlen]) h;have hBl:B.toList=l:=by rw[h2,Nat.zero_mul,M0];rw[h4];simp[hlen]
 refine⟨B,?_,by rw[hBl];exact h5,h6,by rw[h7];simp[hlen],by rw[h3];simp⟩;simp only[Instr.buildSlice,Sem.run_bind,run_underlying hu,Result.andThen_ok,dn hsz];rw[aaN (by omega)];have hm:(parts.map λ (i,x)=>(i,a.eval x)).toList=parts.toList.map λ (i,x)=>(i,a.eval x):=by rw[Array.toList_map]
 by_cases h0:len*sz=0
 ·rw[aaR h0];obtain rfl:=hZ0 h0;simp only[Sem.run_bind,Sem.run_pure,Result.andThen_ok,hm,h1,yw]
 ·rw[aaN h0];obtain rfl:=hZ1 h0;simp only[Sem.run_bind,hzv,Sem.run_pure,Result.andThen_ok,hm,h1,yw]
theorem zp{S:List Ob}(hI:Inv w G S){e:TypeId}{sz len:Nat}{parts:Array (Nat×Operand)}{vals:List V}{a:Act}{xs:List D}(hf:Fr G vals a)(hu:P.underlying t=some (.slice e))(hsz:cq P e=some sz)
  (hz:(ie P e).isSome=true) (hlen:parts.size=len) (hle:len*sz<=16777216) (h:jN sz 0 (parts.toList.map λ p=>(p.1,ev vals p.2))=some xs):
  ∃x w' G',(Instr.buildSlice t len (parts.map λ (i,x)=>(i,a.eval x))).run P w = .ok x w'/\RV G' (.d (.l true xs)) x/\Grow w G w' G'/\Inv w' G' S:=by
 obtain⟨B,h1,h5,h6,h7,h3⟩:=o8 (w:=w) hf hu hsz hz hlen hle h;refine⟨.slice (some ⟨w.heap.size,0,none⟩) len len,C0 w B e,FR w G B B.size,h1,?_,yo hI _ _ _,UW hI _ _ _⟩;simp only[RV,RD];refine⟨_,_,_,sz,rfl,h7.symm,aa4 _,λ _=>rfl,h6,λ _=>⟨_,_,rfl,?_⟩⟩;rw[kv];refine Iv hI h5 (λ i v hv=>?_) ?_
 ·simpa using hv
 ·rw[jm h6,h7,h3];exact aa4 _
theorem Ka{S:List Ob}(hI:Inv w G S){vals:List V}{a:Act}(hf:Fr G vals a){o:Oper}{v:V}(h:fA P vals S o=some v):
  ∃x w' G',(execOp a.eval o).run P w = .ok (.value x) w'/\RV G' v x/\Grow w G w' G'/\Inv w' G' S:=by
 have of:∀{s:Sem Value},Yl P w G s v->(execOp a.eval o=(do pure (.value (<-s))))->∃x w' G',(execOp a.eval o).run P w = .ok (.value x) w'/\RV G' v x/\Grow w G w' G'/\Inv w' G' S:=by rintro s ⟨x,hx,hr⟩ e;exact⟨x,w,G,by rw[e];simp[hx],hr,Grow.refl _ _,hI⟩
 have v8:∀{z:Option Operand} {r:Option V},Dr vals z=some r->rh G r (z.map a.eval):=by
  intro z r hz
  cases z with
  |none=>simp[Dr]at hz;subst hz;exact trivial
  |some x=>
   simp only[Dr]at hz;split at hz
   ·rename_i y hy;simp at hz;subst hz;exact eh hf hy
   ·simp at hz
 unfold fA at h;split at h
 ·rename_i x hop;exact of (s:=pure (a.eval x)) ⟨_,rfl,eh hf h⟩ (by simp[execOp,hop])
 ·rename_i x hop;exact of (s:=pure (a.eval x)) ⟨_,rfl,eh hf h⟩ (by simp[execOp,hop])
 ·rename_i c x y hop;simp only[bind,abd]at h;obtain⟨vc,hc,vx,hx,vy,hy,h⟩:=h;obtain⟨z,hz,hr⟩:=UK (P:=P) (w:=w) (eh hf hc) (eh hf hx) (eh hf hy) h;exact of (s:=do pure (if <-asBool (a.eval c)then a.eval x else a.eval y)) ⟨z,hz,hr⟩ (by
   simp only[execOp,hop];simp)
 ·rename_i t parts hop;split at h
  ·rename_i fs z hu hz;split at h
   ·simp at h
   ·rename_i hall;simp only[bind,pure,abd,Option.some.injEq]at h;obtain⟨zd,hzd,cs,hcs,rfl⟩:=h;exact of (OY hf hu hz (by revert hall;cases fs.toList.all λ f=>(cq P f.type).isSome<;>simp) hzd hcs) (by simp[execOp,hop])
  ·simp at h
 ·rename_i t len parts hop;simp only[bind,abd]at h;obtain⟨e,he,sz,hsz,h⟩:=h;split at h
  ·rename_i hc;simp only[pure,abd,Option.some.injEq]at h;obtain⟨xs,hxs,rfl⟩:=h;have hu:P.underlying t=some (.slice e):=by unfold mu at he;split at he<;>simp_all
   obtain⟨x,w',G',h1,h2,h3,h4⟩:=zp hI hf hu hsz hc.2.2 hc.1 hc.2.1 hxs;exact⟨x,w',G',by simp[execOp,hop,h1],h2,h3,h4⟩
  ·simp at h
 ·rename_i t x hop;simp only[bind,abd]at h;obtain⟨ag,hag,n,hn,vx,hx,h⟩:=h;exact of (JH hI hn hag (eh hf hx) h) (by simp[execOp,hop])
 ·rename_i x hop;simp only[bind,abd]at h;obtain⟨vx,hx,h⟩:=h;obtain⟨⟨A,hA⟩,hr⟩:=XJ (eh hf hx) h;exact of (s:=pure (a.eval x)) ⟨_,rfl,hr⟩ (by simp[execOp,hop,hA])
 ·rename_i op t x y yt hop;simp only[bind,abd]at h;obtain⟨bt,hbt,vx,hx,vy,hy,h⟩:=h;exact of (WY (x:=x) (y:=y) hbt (eh hf hx) (eh hf hy) h) (by simp[execOp,hop])
 ·rename_i op t x hop;simp only[bind,abd]at h;obtain⟨vx,hx,h⟩:=h;exact of (ZI (eh hf hx) h) (by simp[execOp,hop])
 ·rename_i s d x hop;split at h
  ·rename_i s' d' hs hd;split at h
   ·rename_i e;split at h
    ·rename_i hue;simp only[bind,pure,abd,Option.some.injEq]at h;obtain⟨vx,hx,xs,hxs,b,hb,rfl⟩:=h;have hv:=eh hf hx;have hh:bA 1 xs=true:=by
      cases xs with
      |nil=>rfl
      |cons y ys=>
       unfold my at hb;split at hb
       ·rename_i e;simp at e
       ·rename_i e;injection e with e _;subst e;rfl
       ·simp at hb
     obtain⟨z,hz,hr⟩:=ud (P:=P) hI hv hxs hh hb;have hvs:∃q n c,a.eval x = .slice q n c:=by obtain⟨q,c,e,_⟩:=wJ (P:=P) hI hv hxs hh;exact⟨q,_,c,e⟩
     obtain⟨q,n,c,hq⟩:=hvs;exact of (s:=convert s d (a.eval x)) ⟨z,by rw[hq]at hz⊢;simp[convert,run_underlying hs,run_underlying hd,run_underlying hue,hz],hr⟩ (by simp[execOp,hop])
    ·simp at h
   ·simp only[bind,abd]at h;obtain⟨vx,hx,h⟩:=h;exact of (TW hs hd (eh hf hx) h) (by simp[execOp,hop])
  ·simp at h
 ·rename_i t x lo hi mx hop;split at h
  ·simp at h
  ·rename_i hmx;have ex:execOp a.eval o=(do pure (.value (<-Instr.sliceAt t (a.eval x) (lo.map a.eval) (hi.map a.eval) none))):=by simp[execOp,hop]
   split at h
   ·rename_i hu;simp only[bind,abd]at h;obtain⟨vx,hx,s,hs,l,hl,r,hr,h⟩:=h;have hv:=eh hf hx;have:vx = .d (.s s):=by unfold unS at hs;split at hs<;>simp_all
    subst this;exact of (IB hu hv ⟨_,rfl⟩ (v8 hl) (v8 hr) h) ex
   ·rename_i e hu;simp only[bind,abd]at h;obtain⟨vx,hx,v',hv',n,hn,l,hl,r,hr,h⟩:=h;have hv:=eh hf hx;have:vx=v'/\∀x,v' ≠ .d (.s x):=by unfold unL at hv';split at hv'<;>simp_all;(subst hv';simp);(subst hv';simp)
    obtain⟨rfl,hne⟩:=this;exact of (IA hu hn hv hne (v8 hl) (v8 hr) h) ex
   ·simp at h
 ·rename_i s x f hop;split at h
  ·rename_i fs hu;split at h
   ·rename_i g hg;simp only[bind,abd]at h;obtain⟨n,hn,h⟩:=h;split at h
    ·simp at h
    ·rename_i hn0;simp only[abd]at h;obtain⟨vx,hx,h⟩:=h;exact of (Co hu hg hn hn0 (eh hf hx) h) (by simp[execOp,hop])
   ·simp at h
  ·simp at h
 ·rename_i t x f hop;split at h
  ·rename_i fs hu;split at h
   ·rename_i g hg;simp only[bind,abd]at h;obtain⟨n,hn,ag,hag,vx,hx,h⟩:=h;exact of (PK hu hg hn hag (eh hf hx) h) (by simp[execOp,hop])
   ·simp at h
  ·simp at h
 ·rename_i t x i hop;split at h
  ·rename_i e hu;simp only[bind,abd]at h;obtain⟨n,hn,vx,hx,vi,hi,h⟩:=h;exact of (CB hu hn (eh hf hx) (eh hf hi) h) (by simp[execOp,hop])
  ·simp at h
 ·rename_i t x i hop;split at h
  ·rename_i hu;simp only[bind,abd]at h;obtain⟨vx,hx,vi,hi,h⟩:=h;exact of (P0 hu (eh hf hx) (eh hf hi) h) (by simp[execOp,hop])
  ·simp at h
 ·rename_i t i hop;simp only[bind,abd]at h;obtain⟨vx,hx,h⟩:=h;exact of (Hk (eh hf hx) h) (by simp[execOp,hop])
 ·rename_i c hop;split at h
  ·rename_i hcal;split at h
   ·rename_i t x ht hx;split at h
    ·rename_i d hu;simp only[bind,abd]at h;obtain⟨vx,hvx,h⟩:=h;obtain⟨z,hz,hr⟩:=XA (P:=P) (ty:=o.type) hu (eh hf hvx) h;refine of (s:=Builtin.len_ c.argTypes o.type (c.args.map a.eval)) ⟨z,?_,hr⟩ ?_
     ·rw[<-hz];simp only[Builtin.len_];have e1:(c.args.map a.eval)[0]?=some (a.eval x):=by simp[hx]
      rw[ht,e1];rfl
     ·simp[execOp,hop,resolve,hcal,invoke,builtin]
    ·simp at h
   ·simp at h
  ·rename_i hcal;simp only[bind,abd]at h;obtain⟨vs,hvs,h⟩:=h;exact of (XH (ts:=c.argTypes) (ty:=o.type) (xs:=c.args.map a.eval) (by rw[Array.toList_map];exact oh hf hvs) h) (by simp[execOp,hop,resolve,hcal,invoke,builtin])
  ·rename_i hcal;simp only[bind,abd]at h;obtain⟨vs,hvs,h⟩:=h;exact of (XE (ts:=c.argTypes) (ty:=o.type) (xs:=c.args.map a.eval) (by rw[Array.toList_map];exact oh hf hvs) h) (by simp[execOp,hop,resolve,hcal,invoke,builtin])
  ·simp at h
 ·simp at h
end
end Go.Dn
